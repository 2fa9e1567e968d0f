/- Printed by program (wip/gen): plain functions and their walks; no condition. -/
import Derived.Test.YtpkoebbjnfpifaaGx1
namespace Go.Sx.gen
open Go Go.Sx Go.Proofs

noncomputable def f13_b1 (v1 : List T31) (v2 : List T48) (v7 : Int) (v8 : Int) : Option (Int ⊕ Out (Int × Int) Unit) :=
  cond (decide (v8 < (v1.length : Int))) (if (0 : Int) ≤ v8 ∧ v8 < (v1.length : Int) then (f15 (v1.getD v8.toNat default)).bind fun v9 => (cond (v9 == (v7 == (1 : Int))) (if (0 : Int) ≤ v8 ∧ v8 < (v1.length : Int) then (f37 (v1.getD v8.toNat default) v2).bind fun v10 => some v10 else none) (some false)).bind fun v11 => cond v11 (some (.inr (.ret (v8, (0 : Int))))) (some (.inl (w64 (v8 + (1 : Int))))) else none) (some (.inr (.go ())))

noncomputable def f13_b2 (v1 : List T31) (v2 : List T48) (v7 : Int) : Option (Int ⊕ Out (Int × Int) Unit) :=
  cond (decide (v7 < (2 : Int))) ((iter (fun s => f13_b1 v1 v2 v7 s) (0 : Int)).bind fun y => match y with | .ret v12 => some (.inr (.ret (v12.1, v12.2))) | .go _ => some (.inl (w64 (v7 + (1 : Int))))) (some (.inr (.go ())))

noncomputable def f13 (v1 : List T31) (v2 : List T48) : Option (Int × Int) :=
  (f34 v1).bind fun v3 => (cond (!v3) (some true) ((f35 v2).bind fun v4 => some (!v4))).bind fun v5 => cond v5 (some ((0 : Int), (2 : Int))) ((f36 v1).bind fun v6 => cond v6.2.2 (some ((0 : Int), (8 : Int))) ((iter (fun s => f13_b2 v1 v2 s) (0 : Int)).bind fun y => match y with | .ret v13 => some (v13.1, v13.2) | .go _ => some ((0 : Int), (5 : Int))))

theorem f13_ok (v1 : List T31) (v2 : List T48) {r : Int × Int} (h : f13 v1 v2 = some r) : ACall Try.prog 13 [.tv (fzL 2 c31 v1), .tv (fzL 3 c48 v2)] [] (.tup [.tv (.int .i64 r.1), .tv (.int .i64 r.2)]) [] := by
  refine ACall.ofN (FF 53 0) (rs := [4, 5]) (env := [(4, .tv (.int .i64 r.1)), (5, .tv (.int .i64 r.2))]) Try.func13 rfl Try.ntmps13 Try.results13 (by decide) (by decide) rfl (Nat.le_of_ble_eq_true rfl) rfl (get_ofN _ _ _ rfl) (ok_ofN _ rfl) ?_
  refine AWp.seq ?_
  refine AWp.start [0, 1] [] [] [0, 1] 0 ⟨[(0, .tv (fzL 2 c31 v1)), (1, .tv (fzL 3 c48 v2))], []⟩ rfl ?_ (Nat.zero_le _) trivial ?_
  · kernel_rfl
  refine AOps.nil ?_
  refine AWp.seq ?_
  refine AWp.seq ?_
  refine AWp.start [0] [1, 2, 3, 4, 5, 6, 7] [] [0, 1, 11] 0 ⟨[(0, .tv (fzL 2 c31 v1)), (1, .tv (fzL 3 c48 v2)), (11, .tv (fzL 2 c31 v1))], []⟩ rfl ?_ (Nat.zero_le _) trivial ?_
  · kernel_rfl
  obtain ⟨v3, hv3, h⟩ := of_bind h
  refine AOps.cons (AOne.callP (F := (FF 53 0)) _ rfl rfl rfl _ rfl rfl _ _ rfl Try.call34 [.tv (fzL 2 c31 v1)] rfl rfl (f34_ok v1 hv3) rfl) ?_
  refine AOps.go [2, 3] [4, 5, 6, 7] [] [0, 1, 14] 0 ⟨[(0, .tv (fzL 2 c31 v1)), (1, .tv (fzL 3 c48 v2)), (14, .tv (.bool (!v3)))], []⟩ ?_ (Nat.zero_le _) trivial ?_
  · kernel_rfl
  obtain ⟨v5, hc4, h⟩ := of_bind h
  refine AOps.cut [4, 5, 6, 7] [] (fun σ => σ = ⟨[(0, .tv (fzL 2 c31 v1)), (1, .tv (fzL 3 c48 v2)), (18, .tv (.bool v5))], []⟩) ?_ fun σ' hJ => ?_
  · refine AOps.split (fun b => ⟨[(0, .tv (fzL 2 c31 v1)), (1, .tv (fzL 3 c48 v2)), (14, .tv (.bool b))], []⟩) _ (fun hb => ?_) fun hb => ?_
    · replace hc4 := of_true hc4 hb
      refine AOps.go [4, 5, 6, 7] [] [] [0, 1, 18] 0 ⟨[(0, .tv (fzL 2 c31 v1)), (1, .tv (fzL 3 c48 v2)), (18, .tv (.bool true))], []⟩ ?_ (Nat.zero_le _) trivial ?_
      · kernel_rfl
      cases hc4
      exact AOps.nil rfl
    · replace hc4 := of_false hc4 hb
      refine AOps.go [4] [5, 6, 7] [] [0, 1, 14, 15] 0 ⟨[(0, .tv (fzL 2 c31 v1)), (1, .tv (fzL 3 c48 v2)), (14, .tv (.bool false)), (15, .tv (fzL 3 c48 v2))], []⟩ ?_ (Nat.zero_le _) trivial ?_
      · kernel_rfl
      obtain ⟨v4, hv4, hc4⟩ := of_bind hc4
      refine AOps.cons (AOne.callP (F := (FF 53 0)) _ rfl rfl rfl _ rfl rfl _ _ rfl Try.call35 [.tv (fzL 3 c48 v2)] rfl rfl (f35_ok v2 hv4) rfl) ?_
      refine AOps.go [6, 7] [] [] [0, 1, 18] 0 ⟨[(0, .tv (fzL 2 c31 v1)), (1, .tv (fzL 3 c48 v2)), (18, .tv (.bool (!v4)))], []⟩ ?_ (Nat.zero_le _) trivial ?_
      · kernel_rfl
      cases hc4
      exact AOps.nil rfl
  subst hJ
  refine AOps.nil ?_
  refine AWp.cond rfl (fun hb => ?_) fun hb => ?_
  · replace h := of_true h hb
    refine AWp.keepTo [] 0 ⟨[], []⟩ ?_ (Nat.zero_le _) ?_
    · kernel_rfl
    refine AWp.seq ?_
    refine AWp.start [0, 1] [] [] [4, 5] 0 ⟨[(4, .tv (.int .i64 (0 : Int))), (5, .tv (.int .i64 (2 : Int)))], []⟩ rfl ?_ (Nat.zero_le _) trivial ?_
    · kernel_rfl
    refine AOps.nil ?_
    refine AWp.ret ?_
    cases h
    exact ⟨.inr rfl, rfl⟩
  · replace h := of_false h hb
    refine AWp.keepTo [0, 1] 0 ⟨[(0, .tv (fzL 2 c31 v1)), (1, .tv (fzL 3 c48 v2))], []⟩ ?_ (Nat.zero_le _) ?_
    · kernel_rfl
    refine AWp.skip ?_
    refine AWp.seq ?_
    refine AWp.seq ?_
    refine AWp.start [0] [1, 2, 3, 4, 5, 6, 7, 8] [] [0, 1, 20] 0 ⟨[(0, .tv (fzL 2 c31 v1)), (1, .tv (fzL 3 c48 v2)), (20, .tv (fzL 2 c31 v1))], []⟩ rfl ?_ (Nat.zero_le _) trivial ?_
    · kernel_rfl
    obtain ⟨v6, hv6, h⟩ := of_bind h
    refine AOps.cons (AOne.callP (F := (FF 53 0)) _ rfl rfl rfl _ rfl rfl _ _ rfl Try.call36 [.tv (fzL 2 c31 v1)] rfl rfl (f36_ok v1 hv6) rfl) ?_
    refine AOps.go [2, 3, 4, 5, 6, 7, 8] [] [] [0, 1, 8] 0 ⟨[(0, .tv (fzL 2 c31 v1)), (1, .tv (fzL 3 c48 v2)), (8, .tv (.bool v6.2.2))], []⟩ ?_ (Nat.zero_le _) trivial ?_
    · kernel_rfl
    refine AOps.nil ?_
    refine AWp.seq ?_
    refine AWp.start [0] [] [] [0, 1, 25] 0 ⟨[(0, .tv (fzL 2 c31 v1)), (1, .tv (fzL 3 c48 v2)), (25, .tv (.bool v6.2.2))], []⟩ rfl ?_ (Nat.zero_le _) trivial ?_
    · kernel_rfl
    refine AOps.nil ?_
    refine AWp.cond rfl (fun hb => ?_) fun hb => ?_
    · replace h := of_true h hb
      refine AWp.keepTo [] 0 ⟨[], []⟩ ?_ (Nat.zero_le _) ?_
      · kernel_rfl
      refine AWp.seq ?_
      refine AWp.start [0, 1] [] [] [4, 5] 0 ⟨[(4, .tv (.int .i64 (0 : Int))), (5, .tv (.int .i64 (8 : Int)))], []⟩ rfl ?_ (Nat.zero_le _) trivial ?_
      · kernel_rfl
      refine AOps.nil ?_
      refine AWp.ret ?_
      cases h
      exact ⟨.inr rfl, rfl⟩
    · replace h := of_false h hb
      refine AWp.keepTo [0, 1] 0 ⟨[(0, .tv (fzL 2 c31 v1)), (1, .tv (fzL 3 c48 v2))], []⟩ ?_ (Nat.zero_le _) ?_
      · kernel_rfl
      refine AWp.skip ?_
      refine AWp.seq ?_
      refine AWp.seq ?_
      refine AWp.start [0] [] [] [0, 1, 9] 0 ⟨[(0, .tv (fzL 2 c31 v1)), (1, .tv (fzL 3 c48 v2)), (9, .tv (.int .i64 (0 : Int)))], []⟩ rfl ?_ (Nat.zero_le _) trivial ?_
      · kernel_rfl
      refine AOps.nil ?_
      refine AWp.block ?_
      obtain ⟨y, hy, h⟩ := of_bind h
      refine AWp.mono (AWp.loop (S := Int) (Y := Out (Int × Int) Unit) (fun s => ⟨[(0, .tv (fzL 2 c31 v1)), (1, .tv (fzL 3 c48 v2)), (9, .tv (.int .i64 s))], []⟩) (fun s => f13_b2 v1 v2 s) (fun y e σ => match y with | .ret r => e = .ret ∧ σ = ⟨[(4, .tv (.int .i64 r.1)), (5, .tv (.int .i64 r.2))], []⟩ | .go v => e = .exit 0 ∧ σ = ⟨[], []⟩) ?_ hy) ?_
      · rintro v7 o h
        refine AWp.seq ?_
        refine AWp.seq ?_
        refine AWp.start [0, 1] [] [] [0, 1, 9, 27] 0 ⟨[(0, .tv (fzL 2 c31 v1)), (1, .tv (fzL 3 c48 v2)), (9, .tv (.int .i64 v7)), (27, .tv (.bool (decide (v7 < (2 : Int)))))], []⟩ rfl ?_ (Nat.zero_le _) trivial ?_
        · kernel_rfl
        refine AOps.nil ?_
        refine AWp.cond rfl (fun hb => ?_) fun hb => ?_
        · replace h := of_true h hb
          refine AWp.keepTo [0, 1, 9] 0 ⟨[(0, .tv (fzL 2 c31 v1)), (1, .tv (fzL 3 c48 v2)), (9, .tv (.int .i64 v7))], []⟩ ?_ (Nat.zero_le _) ?_
          · kernel_rfl
          refine AWp.skip ?_
          refine AWp.seq ?_
          refine AWp.block ?_
          refine AWp.seq ?_
          refine AWp.start [0] [] [] [0, 1, 9, 10] 0 ⟨[(0, .tv (fzL 2 c31 v1)), (1, .tv (fzL 3 c48 v2)), (9, .tv (.int .i64 v7)), (10, .tv (.int .i64 (0 : Int)))], []⟩ rfl ?_ (Nat.zero_le _) trivial ?_
          · kernel_rfl
          refine AOps.nil ?_
          refine AWp.block ?_
          obtain ⟨y, hy, h⟩ := of_bind h
          refine AWp.mono (AWp.loop (S := Int) (Y := Out (Int × Int) Unit) (fun s => ⟨[(0, .tv (fzL 2 c31 v1)), (1, .tv (fzL 3 c48 v2)), (9, .tv (.int .i64 v7)), (10, .tv (.int .i64 s))], []⟩) (fun s => f13_b1 v1 v2 v7 s) (fun y e σ => match y with | .ret r => e = .ret ∧ σ = ⟨[(4, .tv (.int .i64 r.1)), (5, .tv (.int .i64 r.2))], []⟩ | .go v => e = .exit 2 ∧ σ = ⟨[(0, .tv (fzL 2 c31 v1)), (1, .tv (fzL 3 c48 v2)), (9, .tv (.int .i64 v7))], []⟩) ?_ hy) ?_
          · rintro v8 o h
            refine AWp.seq ?_
            refine AWp.seq ?_
            refine AWp.start [0, 1, 2, 3] [] [] [0, 1, 9, 10, 33] 0 ⟨[(0, .tv (fzL 2 c31 v1)), (1, .tv (fzL 3 c48 v2)), (9, .tv (.int .i64 v7)), (10, .tv (.int .i64 v8)), (33, .tv (.bool (decide (v8 < (v1.length : Int)))))], []⟩ rfl ?_ (Nat.zero_le _) trivial ?_
            · kernel_rfl
            refine AOps.nil ?_
            refine AWp.cond rfl (fun hb => ?_) fun hb => ?_
            · replace h := of_true h hb
              refine AWp.keepTo [0, 1, 9, 10] 0 ⟨[(0, .tv (fzL 2 c31 v1)), (1, .tv (fzL 3 c48 v2)), (9, .tv (.int .i64 v7)), (10, .tv (.int .i64 v8))], []⟩ ?_ (Nat.zero_le _) ?_
              · kernel_rfl
              refine AWp.skip ?_
              refine AWp.seq ?_
              refine AWp.block ?_
              refine AWp.seq ?_
              obtain ⟨hg, h⟩ := of_guard h
              refine AWp.start [0, 1, 2, 3] [4, 5, 6, 7, 8, 9, 10, 11, 12, 13, 14, 15] [(0 : Int) ≤ v8, v8 < (v1.length : Int)] [0, 1, 9, 10, 39] 0 ⟨[(0, .tv (fzL 2 c31 v1)), (1, .tv (fzL 3 c48 v2)), (9, .tv (.int .i64 v7)), (10, .tv (.int .i64 v8)), (39, .agg [.str ((v1.getD v8.toNat default).f0), fzL 3 c48 ((v1.getD v8.toNat default).f1)])], []⟩ rfl ?_ (Nat.zero_le _) ⟨hg.1, hg.2⟩ ?_
              · kernel_rfl
              obtain ⟨v9, hv9, h⟩ := of_bind h
              refine AOps.cons (AOne.callP (F := (FF 53 0)) _ rfl rfl rfl _ rfl rfl _ _ rfl Try.call15 [.agg [.str ((v1.getD v8.toNat default).f0), fzL 3 c48 ((v1.getD v8.toNat default).f1)]] rfl rfl (f15_ok (v1.getD v8.toNat default) hv9) rfl) ?_
              refine AOps.go [5, 6, 7, 8] [9, 10, 11, 12, 13, 14, 15] [] [0, 1, 9, 10, 44] 0 ⟨[(0, .tv (fzL 2 c31 v1)), (1, .tv (fzL 3 c48 v2)), (9, .tv (.int .i64 v7)), (10, .tv (.int .i64 v8)), (44, .tv (.bool (v9 == (v7 == (1 : Int)))))], []⟩ ?_ (Nat.zero_le _) trivial ?_
              · kernel_rfl
              obtain ⟨v11, hc9, h⟩ := of_bind h
              refine AOps.cut [9, 10, 11, 12, 13, 14, 15] [] (fun σ => σ = ⟨[(0, .tv (fzL 2 c31 v1)), (1, .tv (fzL 3 c48 v2)), (9, .tv (.int .i64 v7)), (10, .tv (.int .i64 v8)), (51, .tv (.bool v11))], []⟩) ?_ fun σ' hJ => ?_
              · refine AOps.split (fun b => ⟨[(0, .tv (fzL 2 c31 v1)), (1, .tv (fzL 3 c48 v2)), (9, .tv (.int .i64 v7)), (10, .tv (.int .i64 v8)), (44, .tv (.bool b))], []⟩) _ (fun hb => ?_) fun hb => ?_
                · replace hc9 := of_true hc9 hb
                  obtain ⟨hg, hc9⟩ := of_guard hc9
                  refine AOps.go [9, 10, 11, 12, 13] [14, 15] [(0 : Int) ≤ v8, v8 < (v1.length : Int)] [0, 1, 9, 10, 44, 48, 49] 0 ⟨[(0, .tv (fzL 2 c31 v1)), (1, .tv (fzL 3 c48 v2)), (9, .tv (.int .i64 v7)), (10, .tv (.int .i64 v8)), (44, .tv (.bool true)), (48, .agg [.str ((v1.getD v8.toNat default).f0), fzL 3 c48 ((v1.getD v8.toNat default).f1)]), (49, .tv (fzL 3 c48 v2))], []⟩ ?_ (Nat.zero_le _) ⟨hg.1, hg.2⟩ ?_
                  · kernel_rfl
                  obtain ⟨v10, hv10, hc9⟩ := of_bind hc9
                  refine AOps.cons (AOne.callP (F := (FF 53 0)) _ rfl rfl rfl _ rfl rfl _ _ rfl Try.call37 [.agg [.str ((v1.getD v8.toNat default).f0), fzL 3 c48 ((v1.getD v8.toNat default).f1)], .tv (fzL 3 c48 v2)] rfl rfl (f37_ok (v1.getD v8.toNat default) v2 hv10) rfl) ?_
                  refine AOps.go [15] [] [] [0, 1, 9, 10, 51] 0 ⟨[(0, .tv (fzL 2 c31 v1)), (1, .tv (fzL 3 c48 v2)), (9, .tv (.int .i64 v7)), (10, .tv (.int .i64 v8)), (51, .tv (.bool v10))], []⟩ ?_ (Nat.zero_le _) trivial ?_
                  · kernel_rfl
                  cases hc9
                  exact AOps.nil rfl
                · replace hc9 := of_false hc9 hb
                  refine AOps.go [9, 10, 11, 12, 13, 14, 15] [] [] [0, 1, 9, 10, 51] 0 ⟨[(0, .tv (fzL 2 c31 v1)), (1, .tv (fzL 3 c48 v2)), (9, .tv (.int .i64 v7)), (10, .tv (.int .i64 v8)), (51, .tv (.bool false))], []⟩ ?_ (Nat.zero_le _) trivial ?_
                  · kernel_rfl
                  cases hc9
                  exact AOps.nil rfl
              subst hJ
              refine AOps.nil ?_
              refine AWp.cond rfl (fun hb => ?_) fun hb => ?_
              · replace h := of_true h hb
                refine AWp.keepTo [10] 0 ⟨[(10, .tv (.int .i64 v8))], []⟩ ?_ (Nat.zero_le _) ?_
                · kernel_rfl
                refine AWp.seq ?_
                refine AWp.start [0, 1, 2] [] [] [4, 5] 0 ⟨[(4, .tv (.int .i64 v8)), (5, .tv (.int .i64 (0 : Int)))], []⟩ rfl ?_ (Nat.zero_le _) trivial ?_
                · kernel_rfl
                refine AOps.nil ?_
                refine AWp.ret ?_
                cases h
                exact Or.inr ⟨_, rfl, by simp, rfl, rfl⟩
              · replace h := of_false h hb
                refine AWp.keepTo [0, 1, 9, 10] 0 ⟨[(0, .tv (fzL 2 c31 v1)), (1, .tv (fzL 3 c48 v2)), (9, .tv (.int .i64 v7)), (10, .tv (.int .i64 v8))], []⟩ ?_ (Nat.zero_le _) ?_
                · kernel_rfl
                refine AWp.skip ?_
                refine AWp.start [0, 1, 2] [] [] [0, 1, 9, 10] 0 ⟨[(0, .tv (fzL 2 c31 v1)), (1, .tv (fzL 3 c48 v2)), (9, .tv (.int .i64 v7)), (10, .tv (.int .i64 (w64 (v8 + (1 : Int)))))], []⟩ rfl ?_ (Nat.zero_le _) trivial ?_
                · kernel_rfl
                refine AOps.nil ?_
                cases h
                exact Or.inl ⟨_, rfl, rfl, rfl⟩
            · replace h := of_false h hb
              refine AWp.keepTo [0, 1, 9] 0 ⟨[(0, .tv (fzL 2 c31 v1)), (1, .tv (fzL 3 c48 v2)), (9, .tv (.int .i64 v7))], []⟩ ?_ (Nat.zero_le _) ?_
              · kernel_rfl
              refine AWp.exit ?_
              cases h
              exact Or.inr ⟨_, rfl, by simp, rfl, rfl⟩
          · intro e σ hp
            rcases y with v12 | _
            · obtain ⟨rfl, rfl⟩ := hp
              cases h
              exact Or.inr ⟨_, rfl, by simp, rfl, rfl⟩
            · obtain ⟨rfl, rfl⟩ := hp
              refine AWp.start [0, 1, 2] [] [] [0, 1, 9] 0 ⟨[(0, .tv (fzL 2 c31 v1)), (1, .tv (fzL 3 c48 v2)), (9, .tv (.int .i64 (w64 (v7 + (1 : Int)))))], []⟩ rfl ?_ (Nat.zero_le _) trivial ?_
              · kernel_rfl
              refine AOps.nil ?_
              cases h
              exact Or.inl ⟨_, rfl, rfl, rfl⟩
        · replace h := of_false h hb
          refine AWp.keepTo [] 0 ⟨[], []⟩ ?_ (Nat.zero_le _) ?_
          · kernel_rfl
          refine AWp.exit ?_
          cases h
          exact Or.inr ⟨_, rfl, by simp, rfl, rfl⟩
      · intro e σ hp
        rcases y with v13 | _
        · obtain ⟨rfl, rfl⟩ := hp
          cases h
          exact ⟨.inr rfl, rfl⟩
        · obtain ⟨rfl, rfl⟩ := hp
          refine AWp.seq ?_
          refine AWp.start [0, 1] [] [] [4, 5] 0 ⟨[(4, .tv (.int .i64 (0 : Int))), (5, .tv (.int .i64 (5 : Int)))], []⟩ rfl ?_ (Nat.zero_le _) trivial ?_
          · kernel_rfl
          refine AOps.nil ?_
          refine AWp.ret ?_
          cases h
          exact ⟨.inr rfl, rfl⟩

noncomputable def f14 (v1 : T31) (v2 : List T48) : Option (Bool × Int) :=
  (f19 v1).bind fun v3 => (cond (!v3) (some true) ((f30 v2).bind fun v4 => some (!v4))).bind fun v5 => cond v5 (some (false, (2 : Int))) ((f33 v1 v2).bind fun v6 => some (v6, (0 : Int)))

theorem f14_ok (v1 : T31) (v2 : List T48) {r : Bool × Int} (h : f14 v1 v2 = some r) : ACall Try.prog 14 [.agg [.str v1.f0, fzL 3 c48 v1.f1], .tv (fzL 3 c48 v2)] [] (.tup [.tv (.bool r.1), .tv (.int .i64 r.2)]) [] := by
  refine ACall.ofN (FF 17 0) (rs := [4, 5]) (env := [(4, .tv (.bool r.1)), (5, .tv (.int .i64 r.2))]) Try.func14 rfl Try.ntmps14 Try.results14 (by decide) (by decide) rfl (Nat.le_of_ble_eq_true rfl) rfl (get_ofN _ _ _ rfl) (ok_ofN _ rfl) ?_
  refine AWp.seq ?_
  refine AWp.start [0, 1, 2] [] [] [1, 2] 1 ⟨[(1, .tv (fzL 3 c48 v2)), (2, .pc 0 0)], [.cells 32 [.str v1.f0, fzL 3 c48 v1.f1]]⟩ rfl ?_ (Nat.zero_le _) trivial ?_
  · kernel_rfl
  refine AOps.nil ?_
  refine AWp.seq ?_
  refine AWp.seq ?_
  refine AWp.pin 0 rfl rfl ?_
  refine AWp.keepTo [1, 2] 0 ⟨[(1, .tv (fzL 3 c48 v2)), (2, .rp [.str v1.f0, fzL 3 c48 v1.f1])], []⟩ ?_ (Nat.zero_le _) ?_
  · kernel_rfl
  refine AWp.start [0] [1, 2, 3, 4, 5, 6, 7] [] [1, 2, 6] 0 ⟨[(1, .tv (fzL 3 c48 v2)), (2, .rp [.str v1.f0, fzL 3 c48 v1.f1]), (6, .agg [.str v1.f0, fzL 3 c48 v1.f1])], []⟩ rfl ?_ (Nat.zero_le _) trivial ?_
  · kernel_rfl
  obtain ⟨v3, hv3, h⟩ := of_bind h
  refine AOps.cons (AOne.callP (F := (FF 17 0)) _ rfl rfl rfl _ rfl rfl _ _ rfl Try.call19 [.agg [.str v1.f0, fzL 3 c48 v1.f1]] rfl rfl (f19_ok v1 hv3) rfl) ?_
  refine AOps.go [2, 3] [4, 5, 6, 7] [] [1, 2, 9] 0 ⟨[(1, .tv (fzL 3 c48 v2)), (2, .rp [.str v1.f0, fzL 3 c48 v1.f1]), (9, .tv (.bool (!v3)))], []⟩ ?_ (Nat.zero_le _) trivial ?_
  · kernel_rfl
  obtain ⟨v5, hc4, h⟩ := of_bind h
  refine AOps.cut [4, 5, 6, 7] [] (fun σ => σ = ⟨[(1, .tv (fzL 3 c48 v2)), (2, .rp [.str v1.f0, fzL 3 c48 v1.f1]), (13, .tv (.bool v5))], []⟩) ?_ fun σ' hJ => ?_
  · refine AOps.split (fun b => ⟨[(1, .tv (fzL 3 c48 v2)), (2, .rp [.str v1.f0, fzL 3 c48 v1.f1]), (9, .tv (.bool b))], []⟩) _ (fun hb => ?_) fun hb => ?_
    · replace hc4 := of_true hc4 hb
      refine AOps.go [4, 5, 6, 7] [] [] [1, 2, 13] 0 ⟨[(1, .tv (fzL 3 c48 v2)), (2, .rp [.str v1.f0, fzL 3 c48 v1.f1]), (13, .tv (.bool true))], []⟩ ?_ (Nat.zero_le _) trivial ?_
      · kernel_rfl
      cases hc4
      exact AOps.nil rfl
    · replace hc4 := of_false hc4 hb
      refine AOps.go [4] [5, 6, 7] [] [1, 2, 9, 10] 0 ⟨[(1, .tv (fzL 3 c48 v2)), (2, .rp [.str v1.f0, fzL 3 c48 v1.f1]), (9, .tv (.bool false)), (10, .tv (fzL 3 c48 v2))], []⟩ ?_ (Nat.zero_le _) trivial ?_
      · kernel_rfl
      obtain ⟨v4, hv4, hc4⟩ := of_bind hc4
      refine AOps.cons (AOne.callP (F := (FF 17 0)) _ rfl rfl rfl _ rfl rfl _ _ rfl Try.call30 [.tv (fzL 3 c48 v2)] rfl rfl (f30_ok v2 hv4) rfl) ?_
      refine AOps.go [6, 7] [] [] [1, 2, 13] 0 ⟨[(1, .tv (fzL 3 c48 v2)), (2, .rp [.str v1.f0, fzL 3 c48 v1.f1]), (13, .tv (.bool (!v4)))], []⟩ ?_ (Nat.zero_le _) trivial ?_
      · kernel_rfl
      cases hc4
      exact AOps.nil rfl
  subst hJ
  refine AOps.nil ?_
  refine AWp.cond rfl (fun hb => ?_) fun hb => ?_
  · replace h := of_true h hb
    refine AWp.keepTo [] 0 ⟨[], []⟩ ?_ (Nat.zero_le _) ?_
    · kernel_rfl
    refine AWp.seq ?_
    refine AWp.start [0, 1] [] [] [4, 5] 0 ⟨[(4, .tv (.bool false)), (5, .tv (.int .i64 (2 : Int)))], []⟩ rfl ?_ (Nat.zero_le _) trivial ?_
    · kernel_rfl
    refine AOps.nil ?_
    refine AWp.ret ?_
    cases h
    exact ⟨.inr rfl, rfl⟩
  · replace h := of_false h hb
    refine AWp.keepTo [1, 2] 0 ⟨[(1, .tv (fzL 3 c48 v2)), (2, .rp [.str v1.f0, fzL 3 c48 v1.f1])], []⟩ ?_ (Nat.zero_le _) ?_
    · kernel_rfl
    refine AWp.skip ?_
    refine AWp.seq ?_
    refine AWp.start [0, 1] [2, 3, 4] [] [14, 15] 0 ⟨[(14, .agg [.str v1.f0, fzL 3 c48 v1.f1]), (15, .tv (fzL 3 c48 v2))], []⟩ rfl ?_ (Nat.zero_le _) trivial ?_
    · kernel_rfl
    obtain ⟨v6, hv6, h⟩ := of_bind h
    refine AOps.cons (AOne.callP (F := (FF 17 0)) _ rfl rfl rfl _ rfl rfl _ _ rfl Try.call33 [.agg [.str v1.f0, fzL 3 c48 v1.f1], .tv (fzL 3 c48 v2)] rfl rfl (f33_ok v1 v2 hv6) rfl) ?_
    refine AOps.go [3, 4] [] [] [4, 5] 0 ⟨[(4, .tv (.bool v6)), (5, .tv (.int .i64 (0 : Int)))], []⟩ ?_ (Nat.zero_le _) trivial ?_
    · kernel_rfl
    refine AOps.nil ?_
    refine AWp.ret ?_
    cases h
    exact ⟨.inr rfl, rfl⟩

noncomputable def f3_b1 (v1 : List T31) (v2 : List T48) (v6 : Int × Int) (v12 : Int) : Option (Int ⊕ Out Bool Unit) :=
  cond (decide (v12 < (v1.length : Int))) (if (0 : Int) ≤ v12 ∧ v12 < (v1.length : Int) then (f14 (v1.getD v12.toNat default) v2).bind fun v13 => (cond (v13.2 != (0 : Int)) (some true) ((cond v13.1 (some (v12 != v6.1)) (some false)).bind fun v14 => (cond v14 (if (0 : Int) ≤ v6.1 ∧ v6.1 < (v1.length : Int) then (f15 (v1.getD (Int.toNat v6.1) default)).bind fun v15 => (cond v15 (some true) (if (0 : Int) ≤ v12 ∧ v12 < (v1.length : Int) then (f15 (v1.getD v12.toNat default)).bind fun v16 => some (!v16) else none)).bind fun v17 => some v17 else none) (some false)).bind fun v18 => some v18)).bind fun v19 => cond v19 (some (.inr (.ret false))) (some (.inl (w64 (v12 + (1 : Int))))) else none) (some (.inr (.go ())))

noncomputable def f3 (v1 : List T31) (v2 : List T48) : Option Bool :=
  (f10 v1).bind fun v3 => (cond v3 (some true) (some (decide ((v2.length : Int) > (100 : Int))))).bind fun v4 => cond v4 ((f11 ).bind fun v5 => some v5) ((f12 v1 v2).bind fun v6 => (f13 v1 v2).bind fun v7 => (cond (v6.1 != v7.1) (some true) (some (v6.2 != v7.2))).bind fun v8 => cond v8 (some false) (cond (v6.2 != (0 : Int)) ((f11 ).bind fun v9 => some v9) (if (0 : Int) ≤ v6.1 ∧ v6.1 < (v1.length : Int) then (f14 (v1.getD (Int.toNat v6.1) default) v2).bind fun v10 => (cond (v10.2 != (0 : Int)) (some true) (some (!v10.1))).bind fun v11 => cond v11 (some false) ((iter (fun s => f3_b1 v1 v2 v6 s) (0 : Int)).bind fun y => match y with | .ret v20 => some v20 | .go _ => (f11 ).bind fun v21 => some v21) else none)))

theorem f3_ok (v1 : List T31) (v2 : List T48) {r : Bool} (h : f3 v1 v2 = some r) : ACall Try.prog 3 [.tv (fzL 2 c31 v1), .tv (fzL 3 c48 v2)] [] (.tv (.bool r)) [] := by
  refine ACall.of1 (FF 101 0) Try.func3 rfl Try.ntmps3 Try.results3 (Nat.le_of_ble_eq_true rfl) rfl rfl ?_
  refine AWp.seq ?_
  refine AWp.start [0] [] [] [0, 1] 0 ⟨[(0, .tv (fzL 2 c31 v1)), (1, .tv (fzL 3 c48 v2))], []⟩ rfl ?_ (Nat.zero_le _) trivial ?_
  · kernel_rfl
  refine AOps.nil ?_
  refine AWp.seq ?_
  refine AWp.seq ?_
  refine AWp.start [0] [1, 2, 3, 4, 5, 6] [] [0, 1, 14] 0 ⟨[(0, .tv (fzL 2 c31 v1)), (1, .tv (fzL 3 c48 v2)), (14, .tv (fzL 2 c31 v1))], []⟩ rfl ?_ (Nat.zero_le _) trivial ?_
  · kernel_rfl
  obtain ⟨v3, hv3, h⟩ := of_bind h
  refine AOps.cons (AOne.callP (F := (FF 101 0)) _ rfl rfl rfl _ rfl rfl _ _ rfl Try.call10 [.tv (fzL 2 c31 v1)] rfl rfl (f10_ok v1 hv3) rfl) ?_
  refine AOps.go [2] [3, 4, 5, 6] [] [0, 1, 16] 0 ⟨[(0, .tv (fzL 2 c31 v1)), (1, .tv (fzL 3 c48 v2)), (16, .tv (.bool v3))], []⟩ ?_ (Nat.zero_le _) trivial ?_
  · kernel_rfl
  obtain ⟨v4, hc3, h⟩ := of_bind h
  refine AOps.cut [3, 4, 5, 6] [] (fun σ => σ = ⟨[(0, .tv (fzL 2 c31 v1)), (1, .tv (fzL 3 c48 v2)), (20, .tv (.bool v4))], []⟩) ?_ fun σ' hJ => ?_
  · refine AOps.split (fun b => ⟨[(0, .tv (fzL 2 c31 v1)), (1, .tv (fzL 3 c48 v2)), (16, .tv (.bool b))], []⟩) _ (fun hb => ?_) fun hb => ?_
    · replace hc3 := of_true hc3 hb
      refine AOps.go [3, 4, 5, 6] [] [] [0, 1, 20] 0 ⟨[(0, .tv (fzL 2 c31 v1)), (1, .tv (fzL 3 c48 v2)), (20, .tv (.bool true))], []⟩ ?_ (Nat.zero_le _) trivial ?_
      · kernel_rfl
      cases hc3
      exact AOps.nil rfl
    · replace hc3 := of_false hc3 hb
      refine AOps.go [3, 4, 5, 6] [] [] [0, 1, 20] 0 ⟨[(0, .tv (fzL 2 c31 v1)), (1, .tv (fzL 3 c48 v2)), (20, .tv (.bool (decide ((v2.length : Int) > (100 : Int)))))], []⟩ ?_ (Nat.zero_le _) trivial ?_
      · kernel_rfl
      cases hc3
      exact AOps.nil rfl
  subst hJ
  refine AOps.nil ?_
  refine AWp.cond rfl (fun hb => ?_) fun hb => ?_
  · replace h := of_true h hb
    refine AWp.keepTo [] 0 ⟨[], []⟩ ?_ (Nat.zero_le _) ?_
    · kernel_rfl
    refine AWp.seq ?_
    refine AWp.start [] [0, 1] [] [] 0 ⟨[], []⟩ rfl ?_ (Nat.zero_le _) trivial ?_
    · kernel_rfl
    obtain ⟨v5, hv5, h⟩ := of_bind h
    refine AOps.cons (AOne.callP (F := (FF 101 0)) _ rfl rfl rfl _ rfl rfl _ _ rfl Try.call11 [] rfl rfl (f11_ok  hv5) rfl) ?_
    refine AOps.go [1] [] [] [4] 0 ⟨[(4, .tv (.bool v5))], []⟩ ?_ (Nat.zero_le _) trivial ?_
    · kernel_rfl
    refine AOps.nil ?_
    refine AWp.ret ?_
    cases h
    exact ⟨.inr rfl, rfl⟩
  · replace h := of_false h hb
    refine AWp.keepTo [0, 1] 0 ⟨[(0, .tv (fzL 2 c31 v1)), (1, .tv (fzL 3 c48 v2))], []⟩ ?_ (Nat.zero_le _) ?_
    · kernel_rfl
    refine AWp.skip ?_
    refine AWp.seq ?_
    refine AWp.start [0, 1] [2, 3, 4, 5, 6, 7] [] [0, 1, 23, 24] 0 ⟨[(0, .tv (fzL 2 c31 v1)), (1, .tv (fzL 3 c48 v2)), (23, .tv (fzL 2 c31 v1)), (24, .tv (fzL 3 c48 v2))], []⟩ rfl ?_ (Nat.zero_le _) trivial ?_
    · kernel_rfl
    obtain ⟨v6, hv6, h⟩ := of_bind h
    refine AOps.cons (AOne.callP (F := (FF 101 0)) _ rfl rfl rfl _ rfl rfl _ _ rfl Try.call12 [.tv (fzL 2 c31 v1), .tv (fzL 3 c48 v2)] rfl rfl (f12_ok v1 v2 hv6) rfl) ?_
    refine AOps.go [3, 4, 5, 6, 7] [] [] [0, 1, 5, 6] 0 ⟨[(0, .tv (fzL 2 c31 v1)), (1, .tv (fzL 3 c48 v2)), (5, .tv (.int .i64 v6.1)), (6, .tv (.int .i64 v6.2))], []⟩ ?_ (Nat.zero_le _) trivial ?_
    · kernel_rfl
    refine AOps.nil ?_
    refine AWp.seq ?_
    refine AWp.start [0, 1] [2, 3, 4, 5, 6, 7] [] [0, 1, 5, 6, 29, 30] 0 ⟨[(0, .tv (fzL 2 c31 v1)), (1, .tv (fzL 3 c48 v2)), (5, .tv (.int .i64 v6.1)), (6, .tv (.int .i64 v6.2)), (29, .tv (fzL 2 c31 v1)), (30, .tv (fzL 3 c48 v2))], []⟩ rfl ?_ (Nat.zero_le _) trivial ?_
    · kernel_rfl
    obtain ⟨v7, hv7, h⟩ := of_bind h
    refine AOps.cons (AOne.callP (F := (FF 101 0)) _ rfl rfl rfl _ rfl rfl _ _ rfl Try.call13 [.tv (fzL 2 c31 v1), .tv (fzL 3 c48 v2)] rfl rfl (f13_ok v1 v2 hv7) rfl) ?_
    refine AOps.go [3, 4, 5, 6, 7] [] [] [0, 1, 5, 6, 7, 8] 0 ⟨[(0, .tv (fzL 2 c31 v1)), (1, .tv (fzL 3 c48 v2)), (5, .tv (.int .i64 v6.1)), (6, .tv (.int .i64 v6.2)), (7, .tv (.int .i64 v7.1)), (8, .tv (.int .i64 v7.2))], []⟩ ?_ (Nat.zero_le _) trivial ?_
    · kernel_rfl
    refine AOps.nil ?_
    refine AWp.seq ?_
    refine AWp.seq ?_
    refine AWp.start [0, 1, 2, 3] [4, 5, 6, 7] [] [0, 1, 5, 6, 8, 37] 0 ⟨[(0, .tv (fzL 2 c31 v1)), (1, .tv (fzL 3 c48 v2)), (5, .tv (.int .i64 v6.1)), (6, .tv (.int .i64 v6.2)), (8, .tv (.int .i64 v7.2)), (37, .tv (.bool (v6.1 != v7.1)))], []⟩ rfl ?_ (Nat.zero_le _) trivial ?_
    · kernel_rfl
    obtain ⟨v8, hc4, h⟩ := of_bind h
    refine AOps.cut [4, 5, 6, 7] [] (fun σ => σ = ⟨[(0, .tv (fzL 2 c31 v1)), (1, .tv (fzL 3 c48 v2)), (5, .tv (.int .i64 v6.1)), (6, .tv (.int .i64 v6.2)), (41, .tv (.bool v8))], []⟩) ?_ fun σ' hJ => ?_
    · refine AOps.split (fun b => ⟨[(0, .tv (fzL 2 c31 v1)), (1, .tv (fzL 3 c48 v2)), (5, .tv (.int .i64 v6.1)), (6, .tv (.int .i64 v6.2)), (8, .tv (.int .i64 v7.2)), (37, .tv (.bool b))], []⟩) _ (fun hb => ?_) fun hb => ?_
      · replace hc4 := of_true hc4 hb
        refine AOps.go [4, 5, 6, 7] [] [] [0, 1, 5, 6, 41] 0 ⟨[(0, .tv (fzL 2 c31 v1)), (1, .tv (fzL 3 c48 v2)), (5, .tv (.int .i64 v6.1)), (6, .tv (.int .i64 v6.2)), (41, .tv (.bool true))], []⟩ ?_ (Nat.zero_le _) trivial ?_
        · kernel_rfl
        cases hc4
        exact AOps.nil rfl
      · replace hc4 := of_false hc4 hb
        refine AOps.go [4, 5, 6, 7] [] [] [0, 1, 5, 6, 41] 0 ⟨[(0, .tv (fzL 2 c31 v1)), (1, .tv (fzL 3 c48 v2)), (5, .tv (.int .i64 v6.1)), (6, .tv (.int .i64 v6.2)), (41, .tv (.bool (v6.2 != v7.2)))], []⟩ ?_ (Nat.zero_le _) trivial ?_
        · kernel_rfl
        cases hc4
        exact AOps.nil rfl
    subst hJ
    refine AOps.nil ?_
    refine AWp.cond rfl (fun hb => ?_) fun hb => ?_
    · replace h := of_true h hb
      refine AWp.keepTo [] 0 ⟨[], []⟩ ?_ (Nat.zero_le _) ?_
      · kernel_rfl
      refine AWp.seq ?_
      refine AWp.start [0] [] [] [4] 0 ⟨[(4, .tv (.bool false))], []⟩ rfl ?_ (Nat.zero_le _) trivial ?_
      · kernel_rfl
      refine AOps.nil ?_
      refine AWp.ret ?_
      cases h
      exact ⟨.inr rfl, rfl⟩
    · replace h := of_false h hb
      refine AWp.keepTo [0, 1, 5, 6] 0 ⟨[(0, .tv (fzL 2 c31 v1)), (1, .tv (fzL 3 c48 v2)), (5, .tv (.int .i64 v6.1)), (6, .tv (.int .i64 v6.2))], []⟩ ?_ (Nat.zero_le _) ?_
      · kernel_rfl
      refine AWp.skip ?_
      refine AWp.seq ?_
      refine AWp.seq ?_
      refine AWp.start [0, 1] [] [] [0, 1, 5, 43] 0 ⟨[(0, .tv (fzL 2 c31 v1)), (1, .tv (fzL 3 c48 v2)), (5, .tv (.int .i64 v6.1)), (43, .tv (.bool (v6.2 != (0 : Int))))], []⟩ rfl ?_ (Nat.zero_le _) trivial ?_
      · kernel_rfl
      refine AOps.nil ?_
      refine AWp.cond rfl (fun hb => ?_) fun hb => ?_
      · replace h := of_true h hb
        refine AWp.keepTo [] 0 ⟨[], []⟩ ?_ (Nat.zero_le _) ?_
        · kernel_rfl
        refine AWp.seq ?_
        refine AWp.start [] [0, 1] [] [] 0 ⟨[], []⟩ rfl ?_ (Nat.zero_le _) trivial ?_
        · kernel_rfl
        obtain ⟨v9, hv9, h⟩ := of_bind h
        refine AOps.cons (AOne.callP (F := (FF 101 0)) _ rfl rfl rfl _ rfl rfl _ _ rfl Try.call11 [] rfl rfl (f11_ok  hv9) rfl) ?_
        refine AOps.go [1] [] [] [4] 0 ⟨[(4, .tv (.bool v9))], []⟩ ?_ (Nat.zero_le _) trivial ?_
        · kernel_rfl
        refine AOps.nil ?_
        refine AWp.ret ?_
        cases h
        exact ⟨.inr rfl, rfl⟩
      · replace h := of_false h hb
        refine AWp.keepTo [0, 1, 5] 0 ⟨[(0, .tv (fzL 2 c31 v1)), (1, .tv (fzL 3 c48 v2)), (5, .tv (.int .i64 v6.1))], []⟩ ?_ (Nat.zero_le _) ?_
        · kernel_rfl
        refine AWp.skip ?_
        refine AWp.seq ?_
        refine AWp.seq ?_
        obtain ⟨hg, h⟩ := of_guard h
        refine AWp.start [0, 1, 2, 3, 4] [5, 6, 7, 8, 9, 10] [(0 : Int) ≤ v6.1, v6.1 < (v1.length : Int)] [0, 1, 5, 49, 50] 0 ⟨[(0, .tv (fzL 2 c31 v1)), (1, .tv (fzL 3 c48 v2)), (5, .tv (.int .i64 v6.1)), (49, .agg [.str ((v1.getD (Int.toNat v6.1) default).f0), fzL 3 c48 ((v1.getD (Int.toNat v6.1) default).f1)]), (50, .tv (fzL 3 c48 v2))], []⟩ rfl ?_ (Nat.zero_le _) ⟨hg.1, hg.2⟩ ?_
        · kernel_rfl
        obtain ⟨v10, hv10, h⟩ := of_bind h
        refine AOps.cons (AOne.callP (F := (FF 101 0)) _ rfl rfl rfl _ rfl rfl _ _ rfl Try.call14 [.agg [.str ((v1.getD (Int.toNat v6.1) default).f0), fzL 3 c48 ((v1.getD (Int.toNat v6.1) default).f1)], .tv (fzL 3 c48 v2)] rfl rfl (f14_ok (v1.getD (Int.toNat v6.1) default) v2 hv10) rfl) ?_
        refine AOps.go [6, 7, 8, 9, 10] [] [] [0, 1, 5, 9, 10] 0 ⟨[(0, .tv (fzL 2 c31 v1)), (1, .tv (fzL 3 c48 v2)), (5, .tv (.int .i64 v6.1)), (9, .tv (.bool v10.1)), (10, .tv (.int .i64 v10.2))], []⟩ ?_ (Nat.zero_le _) trivial ?_
        · kernel_rfl
        refine AOps.nil ?_
        refine AWp.seq ?_
        refine AWp.start [0, 1, 2] [3, 4, 5] [] [0, 1, 5, 9, 56] 0 ⟨[(0, .tv (fzL 2 c31 v1)), (1, .tv (fzL 3 c48 v2)), (5, .tv (.int .i64 v6.1)), (9, .tv (.bool v10.1)), (56, .tv (.bool (v10.2 != (0 : Int))))], []⟩ rfl ?_ (Nat.zero_le _) trivial ?_
        · kernel_rfl
        obtain ⟨v11, hc3, h⟩ := of_bind h
        refine AOps.cut [3, 4, 5] [] (fun σ => σ = ⟨[(0, .tv (fzL 2 c31 v1)), (1, .tv (fzL 3 c48 v2)), (5, .tv (.int .i64 v6.1)), (59, .tv (.bool v11))], []⟩) ?_ fun σ' hJ => ?_
        · refine AOps.split (fun b => ⟨[(0, .tv (fzL 2 c31 v1)), (1, .tv (fzL 3 c48 v2)), (5, .tv (.int .i64 v6.1)), (9, .tv (.bool v10.1)), (56, .tv (.bool b))], []⟩) _ (fun hb => ?_) fun hb => ?_
          · replace hc3 := of_true hc3 hb
            refine AOps.go [3, 4, 5] [] [] [0, 1, 5, 59] 0 ⟨[(0, .tv (fzL 2 c31 v1)), (1, .tv (fzL 3 c48 v2)), (5, .tv (.int .i64 v6.1)), (59, .tv (.bool true))], []⟩ ?_ (Nat.zero_le _) trivial ?_
            · kernel_rfl
            cases hc3
            exact AOps.nil rfl
          · replace hc3 := of_false hc3 hb
            refine AOps.go [3, 4, 5] [] [] [0, 1, 5, 59] 0 ⟨[(0, .tv (fzL 2 c31 v1)), (1, .tv (fzL 3 c48 v2)), (5, .tv (.int .i64 v6.1)), (59, .tv (.bool (!v10.1)))], []⟩ ?_ (Nat.zero_le _) trivial ?_
            · kernel_rfl
            cases hc3
            exact AOps.nil rfl
        subst hJ
        refine AOps.nil ?_
        refine AWp.cond rfl (fun hb => ?_) fun hb => ?_
        · replace h := of_true h hb
          refine AWp.keepTo [] 0 ⟨[], []⟩ ?_ (Nat.zero_le _) ?_
          · kernel_rfl
          refine AWp.seq ?_
          refine AWp.start [0] [] [] [4] 0 ⟨[(4, .tv (.bool false))], []⟩ rfl ?_ (Nat.zero_le _) trivial ?_
          · kernel_rfl
          refine AOps.nil ?_
          refine AWp.ret ?_
          cases h
          exact ⟨.inr rfl, rfl⟩
        · replace h := of_false h hb
          refine AWp.keepTo [0, 1, 5] 0 ⟨[(0, .tv (fzL 2 c31 v1)), (1, .tv (fzL 3 c48 v2)), (5, .tv (.int .i64 v6.1))], []⟩ ?_ (Nat.zero_le _) ?_
          · kernel_rfl
          refine AWp.skip ?_
          refine AWp.seq ?_
          refine AWp.seq ?_
          refine AWp.start [0] [] [] [0, 1, 5, 11] 0 ⟨[(0, .tv (fzL 2 c31 v1)), (1, .tv (fzL 3 c48 v2)), (5, .tv (.int .i64 v6.1)), (11, .tv (.int .i64 (0 : Int)))], []⟩ rfl ?_ (Nat.zero_le _) trivial ?_
          · kernel_rfl
          refine AOps.nil ?_
          refine AWp.block ?_
          obtain ⟨y, hy, h⟩ := of_bind h
          refine AWp.mono (AWp.loop (S := Int) (Y := Out Bool Unit) (fun s => ⟨[(0, .tv (fzL 2 c31 v1)), (1, .tv (fzL 3 c48 v2)), (5, .tv (.int .i64 v6.1)), (11, .tv (.int .i64 s))], []⟩) (fun s => f3_b1 v1 v2 v6 s) (fun y e σ => match y with | .ret r => e = .ret ∧ σ = ⟨[(4, .tv (.bool r))], []⟩ | .go v => e = .exit 0 ∧ σ = ⟨[], []⟩) ?_ hy) ?_
          · rintro v12 o h
            refine AWp.seq ?_
            refine AWp.seq ?_
            refine AWp.start [0, 1, 2, 3] [] [] [0, 1, 5, 11, 63] 0 ⟨[(0, .tv (fzL 2 c31 v1)), (1, .tv (fzL 3 c48 v2)), (5, .tv (.int .i64 v6.1)), (11, .tv (.int .i64 v12)), (63, .tv (.bool (decide (v12 < (v1.length : Int)))))], []⟩ rfl ?_ (Nat.zero_le _) trivial ?_
            · kernel_rfl
            refine AOps.nil ?_
            refine AWp.cond rfl (fun hb => ?_) fun hb => ?_
            · replace h := of_true h hb
              refine AWp.keepTo [0, 1, 5, 11] 0 ⟨[(0, .tv (fzL 2 c31 v1)), (1, .tv (fzL 3 c48 v2)), (5, .tv (.int .i64 v6.1)), (11, .tv (.int .i64 v12))], []⟩ ?_ (Nat.zero_le _) ?_
              · kernel_rfl
              refine AWp.skip ?_
              refine AWp.seq ?_
              refine AWp.block ?_
              refine AWp.seq ?_
              obtain ⟨hg, h⟩ := of_guard h
              refine AWp.start [0, 1, 2, 3, 4] [5, 6, 7, 8, 9, 10] [(0 : Int) ≤ v12, v12 < (v1.length : Int)] [0, 1, 5, 11, 70, 71] 0 ⟨[(0, .tv (fzL 2 c31 v1)), (1, .tv (fzL 3 c48 v2)), (5, .tv (.int .i64 v6.1)), (11, .tv (.int .i64 v12)), (70, .agg [.str ((v1.getD v12.toNat default).f0), fzL 3 c48 ((v1.getD v12.toNat default).f1)]), (71, .tv (fzL 3 c48 v2))], []⟩ rfl ?_ (Nat.zero_le _) ⟨hg.1, hg.2⟩ ?_
              · kernel_rfl
              obtain ⟨v13, hv13, h⟩ := of_bind h
              refine AOps.cons (AOne.callP (F := (FF 101 0)) _ rfl rfl rfl _ rfl rfl _ _ rfl Try.call14 [.agg [.str ((v1.getD v12.toNat default).f0), fzL 3 c48 ((v1.getD v12.toNat default).f1)], .tv (fzL 3 c48 v2)] rfl rfl (f14_ok (v1.getD v12.toNat default) v2 hv13) rfl) ?_
              refine AOps.go [6, 7, 8, 9, 10] [] [] [0, 1, 5, 11, 12, 13] 0 ⟨[(0, .tv (fzL 2 c31 v1)), (1, .tv (fzL 3 c48 v2)), (5, .tv (.int .i64 v6.1)), (11, .tv (.int .i64 v12)), (12, .tv (.bool v13.1)), (13, .tv (.int .i64 v13.2))], []⟩ ?_ (Nat.zero_le _) trivial ?_
              · kernel_rfl
              refine AOps.nil ?_
              refine AWp.seq ?_
              refine AWp.start [0, 1, 2] [3, 4, 5, 6, 7, 8, 9, 10, 11, 12, 13, 14, 15, 16, 17, 18, 19, 20, 21, 22, 23, 24] [] [0, 1, 5, 11, 12, 77] 0 ⟨[(0, .tv (fzL 2 c31 v1)), (1, .tv (fzL 3 c48 v2)), (5, .tv (.int .i64 v6.1)), (11, .tv (.int .i64 v12)), (12, .tv (.bool v13.1)), (77, .tv (.bool (v13.2 != (0 : Int))))], []⟩ rfl ?_ (Nat.zero_le _) trivial ?_
              · kernel_rfl
              obtain ⟨v19, hc3, h⟩ := of_bind h
              refine AOps.cut [3, 4, 5, 6, 7, 8, 9, 10, 11, 12, 13, 14, 15, 16, 17, 18, 19, 20, 21, 22, 23, 24] [] (fun σ => σ = ⟨[(0, .tv (fzL 2 c31 v1)), (1, .tv (fzL 3 c48 v2)), (5, .tv (.int .i64 v6.1)), (11, .tv (.int .i64 v12)), (99, .tv (.bool v19))], []⟩) ?_ fun σ' hJ => ?_
              · refine AOps.split (fun b => ⟨[(0, .tv (fzL 2 c31 v1)), (1, .tv (fzL 3 c48 v2)), (5, .tv (.int .i64 v6.1)), (11, .tv (.int .i64 v12)), (12, .tv (.bool v13.1)), (77, .tv (.bool b))], []⟩) _ (fun hb => ?_) fun hb => ?_
                · replace hc3 := of_true hc3 hb
                  refine AOps.go [3, 4, 5, 6, 7, 8, 9, 10, 11, 12, 13, 14, 15, 16, 17, 18, 19, 20, 21, 22, 23, 24] [] [] [0, 1, 5, 11, 99] 0 ⟨[(0, .tv (fzL 2 c31 v1)), (1, .tv (fzL 3 c48 v2)), (5, .tv (.int .i64 v6.1)), (11, .tv (.int .i64 v12)), (99, .tv (.bool true))], []⟩ ?_ (Nat.zero_le _) trivial ?_
                  · kernel_rfl
                  cases hc3
                  exact AOps.nil rfl
                · replace hc3 := of_false hc3 hb
                  refine AOps.go [3, 4] [5, 6, 7, 8, 9, 10, 11, 12, 13, 14, 15, 16, 17, 18, 19, 20, 21, 22, 23, 24] [] [0, 1, 5, 11, 77, 79] 0 ⟨[(0, .tv (fzL 2 c31 v1)), (1, .tv (fzL 3 c48 v2)), (5, .tv (.int .i64 v6.1)), (11, .tv (.int .i64 v12)), (77, .tv (.bool false)), (79, .tv (.bool v13.1))], []⟩ ?_ (Nat.zero_le _) trivial ?_
                  · kernel_rfl
                  obtain ⟨v14, hc5, hc3⟩ := of_bind hc3
                  refine AOps.cut [5, 6, 7, 8] [9, 10, 11, 12, 13, 14, 15, 16, 17, 18, 19, 20, 21, 22, 23, 24] (fun σ => σ = ⟨[(0, .tv (fzL 2 c31 v1)), (1, .tv (fzL 3 c48 v2)), (5, .tv (.int .i64 v6.1)), (11, .tv (.int .i64 v12)), (77, .tv (.bool false)), (83, .tv (.bool v14))], []⟩) ?_ fun σ' hJ => ?_
                  · refine AOps.split (fun b => ⟨[(0, .tv (fzL 2 c31 v1)), (1, .tv (fzL 3 c48 v2)), (5, .tv (.int .i64 v6.1)), (11, .tv (.int .i64 v12)), (77, .tv (.bool false)), (79, .tv (.bool b))], []⟩) _ (fun hb => ?_) fun hb => ?_
                    · replace hc5 := of_true hc5 hb
                      refine AOps.go [5, 6, 7, 8] [] [] [0, 1, 5, 11, 77, 83] 0 ⟨[(0, .tv (fzL 2 c31 v1)), (1, .tv (fzL 3 c48 v2)), (5, .tv (.int .i64 v6.1)), (11, .tv (.int .i64 v12)), (77, .tv (.bool false)), (83, .tv (.bool (v12 != v6.1)))], []⟩ ?_ (Nat.zero_le _) trivial ?_
                      · kernel_rfl
                      cases hc5
                      exact AOps.nil rfl
                    · replace hc5 := of_false hc5 hb
                      refine AOps.go [5, 6, 7, 8] [] [] [0, 1, 5, 11, 77, 83] 0 ⟨[(0, .tv (fzL 2 c31 v1)), (1, .tv (fzL 3 c48 v2)), (5, .tv (.int .i64 v6.1)), (11, .tv (.int .i64 v12)), (77, .tv (.bool false)), (83, .tv (.bool false))], []⟩ ?_ (Nat.zero_le _) trivial ?_
                      · kernel_rfl
                      cases hc5
                      exact AOps.nil rfl
                  subst hJ
                  refine AOps.go [9] [10, 11, 12, 13, 14, 15, 16, 17, 18, 19, 20, 21, 22, 23, 24] [] [0, 1, 5, 11, 77, 84] 0 ⟨[(0, .tv (fzL 2 c31 v1)), (1, .tv (fzL 3 c48 v2)), (5, .tv (.int .i64 v6.1)), (11, .tv (.int .i64 v12)), (77, .tv (.bool false)), (84, .tv (.bool v14))], []⟩ ?_ (Nat.zero_le _) trivial ?_
                  · kernel_rfl
                  obtain ⟨v18, hc10, hc3⟩ := of_bind hc3
                  refine AOps.cut [10, 11, 12, 13, 14, 15, 16, 17, 18, 19, 20, 21, 22, 23] [24] (fun σ => σ = ⟨[(0, .tv (fzL 2 c31 v1)), (1, .tv (fzL 3 c48 v2)), (5, .tv (.int .i64 v6.1)), (11, .tv (.int .i64 v12)), (77, .tv (.bool false)), (98, .tv (.bool v18))], []⟩) ?_ fun σ' hJ => ?_
                  · refine AOps.split (fun b => ⟨[(0, .tv (fzL 2 c31 v1)), (1, .tv (fzL 3 c48 v2)), (5, .tv (.int .i64 v6.1)), (11, .tv (.int .i64 v12)), (77, .tv (.bool false)), (84, .tv (.bool b))], []⟩) _ (fun hb => ?_) fun hb => ?_
                    · replace hc10 := of_true hc10 hb
                      obtain ⟨hg, hc10⟩ := of_guard hc10
                      refine AOps.go [10, 11, 12, 13] [14, 15, 16, 17, 18, 19, 20, 21, 22, 23] [(0 : Int) ≤ v6.1, v6.1 < (v1.length : Int)] [0, 1, 5, 11, 77, 84, 88] 0 ⟨[(0, .tv (fzL 2 c31 v1)), (1, .tv (fzL 3 c48 v2)), (5, .tv (.int .i64 v6.1)), (11, .tv (.int .i64 v12)), (77, .tv (.bool false)), (84, .tv (.bool true)), (88, .agg [.str ((v1.getD (Int.toNat v6.1) default).f0), fzL 3 c48 ((v1.getD (Int.toNat v6.1) default).f1)])], []⟩ ?_ (Nat.zero_le _) ⟨hg.1, hg.2⟩ ?_
                      · kernel_rfl
                      obtain ⟨v15, hv15, hc10⟩ := of_bind hc10
                      refine AOps.cons (AOne.callP (F := (FF 101 0)) _ rfl rfl rfl _ rfl rfl _ _ rfl Try.call15 [.agg [.str ((v1.getD (Int.toNat v6.1) default).f0), fzL 3 c48 ((v1.getD (Int.toNat v6.1) default).f1)]] rfl rfl (f15_ok (v1.getD (Int.toNat v6.1) default) hv15) rfl) ?_
                      refine AOps.go [15] [16, 17, 18, 19, 20, 21, 22, 23] [] [0, 1, 5, 11, 77, 84, 90] 0 ⟨[(0, .tv (fzL 2 c31 v1)), (1, .tv (fzL 3 c48 v2)), (5, .tv (.int .i64 v6.1)), (11, .tv (.int .i64 v12)), (77, .tv (.bool false)), (84, .tv (.bool true)), (90, .tv (.bool v15))], []⟩ ?_ (Nat.zero_le _) trivial ?_
                      · kernel_rfl
                      obtain ⟨v17, hc16, hc10⟩ := of_bind hc10
                      refine AOps.cut [16, 17, 18, 19, 20, 21, 22] [23] (fun σ => σ = ⟨[(0, .tv (fzL 2 c31 v1)), (1, .tv (fzL 3 c48 v2)), (5, .tv (.int .i64 v6.1)), (11, .tv (.int .i64 v12)), (77, .tv (.bool false)), (84, .tv (.bool true)), (97, .tv (.bool v17))], []⟩) ?_ fun σ' hJ => ?_
                      · refine AOps.split (fun b => ⟨[(0, .tv (fzL 2 c31 v1)), (1, .tv (fzL 3 c48 v2)), (5, .tv (.int .i64 v6.1)), (11, .tv (.int .i64 v12)), (77, .tv (.bool false)), (84, .tv (.bool true)), (90, .tv (.bool b))], []⟩) _ (fun hb => ?_) fun hb => ?_
                        · replace hc16 := of_true hc16 hb
                          refine AOps.go [16, 17, 18, 19, 20, 21, 22] [] [] [0, 1, 5, 11, 77, 84, 97] 0 ⟨[(0, .tv (fzL 2 c31 v1)), (1, .tv (fzL 3 c48 v2)), (5, .tv (.int .i64 v6.1)), (11, .tv (.int .i64 v12)), (77, .tv (.bool false)), (84, .tv (.bool true)), (97, .tv (.bool true))], []⟩ ?_ (Nat.zero_le _) trivial ?_
                          · kernel_rfl
                          cases hc16
                          exact AOps.nil rfl
                        · replace hc16 := of_false hc16 hb
                          obtain ⟨hg, hc16⟩ := of_guard hc16
                          refine AOps.go [16, 17, 18, 19] [20, 21, 22] [(0 : Int) ≤ v12, v12 < (v1.length : Int)] [0, 1, 5, 11, 77, 84, 90, 94] 0 ⟨[(0, .tv (fzL 2 c31 v1)), (1, .tv (fzL 3 c48 v2)), (5, .tv (.int .i64 v6.1)), (11, .tv (.int .i64 v12)), (77, .tv (.bool false)), (84, .tv (.bool true)), (90, .tv (.bool false)), (94, .agg [.str ((v1.getD v12.toNat default).f0), fzL 3 c48 ((v1.getD v12.toNat default).f1)])], []⟩ ?_ (Nat.zero_le _) ⟨hg.1, hg.2⟩ ?_
                          · kernel_rfl
                          obtain ⟨v16, hv16, hc16⟩ := of_bind hc16
                          refine AOps.cons (AOne.callP (F := (FF 101 0)) _ rfl rfl rfl _ rfl rfl _ _ rfl Try.call15 [.agg [.str ((v1.getD v12.toNat default).f0), fzL 3 c48 ((v1.getD v12.toNat default).f1)]] rfl rfl (f15_ok (v1.getD v12.toNat default) hv16) rfl) ?_
                          refine AOps.go [21, 22] [] [] [0, 1, 5, 11, 77, 84, 97] 0 ⟨[(0, .tv (fzL 2 c31 v1)), (1, .tv (fzL 3 c48 v2)), (5, .tv (.int .i64 v6.1)), (11, .tv (.int .i64 v12)), (77, .tv (.bool false)), (84, .tv (.bool true)), (97, .tv (.bool (!v16)))], []⟩ ?_ (Nat.zero_le _) trivial ?_
                          · kernel_rfl
                          cases hc16
                          exact AOps.nil rfl
                      subst hJ
                      refine AOps.go [23] [] [] [0, 1, 5, 11, 77, 98] 0 ⟨[(0, .tv (fzL 2 c31 v1)), (1, .tv (fzL 3 c48 v2)), (5, .tv (.int .i64 v6.1)), (11, .tv (.int .i64 v12)), (77, .tv (.bool false)), (98, .tv (.bool v17))], []⟩ ?_ (Nat.zero_le _) trivial ?_
                      · kernel_rfl
                      cases hc10
                      exact AOps.nil rfl
                    · replace hc10 := of_false hc10 hb
                      refine AOps.go [10, 11, 12, 13, 14, 15, 16, 17, 18, 19, 20, 21, 22, 23] [] [] [0, 1, 5, 11, 77, 98] 0 ⟨[(0, .tv (fzL 2 c31 v1)), (1, .tv (fzL 3 c48 v2)), (5, .tv (.int .i64 v6.1)), (11, .tv (.int .i64 v12)), (77, .tv (.bool false)), (98, .tv (.bool false))], []⟩ ?_ (Nat.zero_le _) trivial ?_
                      · kernel_rfl
                      cases hc10
                      exact AOps.nil rfl
                  subst hJ
                  refine AOps.go [24] [] [] [0, 1, 5, 11, 99] 0 ⟨[(0, .tv (fzL 2 c31 v1)), (1, .tv (fzL 3 c48 v2)), (5, .tv (.int .i64 v6.1)), (11, .tv (.int .i64 v12)), (99, .tv (.bool v18))], []⟩ ?_ (Nat.zero_le _) trivial ?_
                  · kernel_rfl
                  cases hc3
                  exact AOps.nil rfl
              subst hJ
              refine AOps.nil ?_
              refine AWp.cond rfl (fun hb => ?_) fun hb => ?_
              · replace h := of_true h hb
                refine AWp.keepTo [] 0 ⟨[], []⟩ ?_ (Nat.zero_le _) ?_
                · kernel_rfl
                refine AWp.seq ?_
                refine AWp.start [0] [] [] [4] 0 ⟨[(4, .tv (.bool false))], []⟩ rfl ?_ (Nat.zero_le _) trivial ?_
                · kernel_rfl
                refine AOps.nil ?_
                refine AWp.ret ?_
                cases h
                exact Or.inr ⟨_, rfl, by simp, rfl, rfl⟩
              · replace h := of_false h hb
                refine AWp.keepTo [0, 1, 5, 11] 0 ⟨[(0, .tv (fzL 2 c31 v1)), (1, .tv (fzL 3 c48 v2)), (5, .tv (.int .i64 v6.1)), (11, .tv (.int .i64 v12))], []⟩ ?_ (Nat.zero_le _) ?_
                · kernel_rfl
                refine AWp.skip ?_
                refine AWp.start [0, 1, 2] [] [] [0, 1, 5, 11] 0 ⟨[(0, .tv (fzL 2 c31 v1)), (1, .tv (fzL 3 c48 v2)), (5, .tv (.int .i64 v6.1)), (11, .tv (.int .i64 (w64 (v12 + (1 : Int)))))], []⟩ rfl ?_ (Nat.zero_le _) trivial ?_
                · kernel_rfl
                refine AOps.nil ?_
                cases h
                exact Or.inl ⟨_, rfl, rfl, rfl⟩
            · replace h := of_false h hb
              refine AWp.keepTo [] 0 ⟨[], []⟩ ?_ (Nat.zero_le _) ?_
              · kernel_rfl
              refine AWp.exit ?_
              cases h
              exact Or.inr ⟨_, rfl, by simp, rfl, rfl⟩
          · intro e σ hp
            rcases y with v20 | _
            · obtain ⟨rfl, rfl⟩ := hp
              cases h
              exact ⟨.inr rfl, rfl⟩
            · obtain ⟨rfl, rfl⟩ := hp
              refine AWp.seq ?_
              refine AWp.start [] [0, 1] [] [] 0 ⟨[], []⟩ rfl ?_ (Nat.zero_le _) trivial ?_
              · kernel_rfl
              obtain ⟨v21, hv21, h⟩ := of_bind h
              refine AOps.cons (AOne.callP (F := (FF 101 0)) _ rfl rfl rfl _ rfl rfl _ _ rfl Try.call11 [] rfl rfl (f11_ok  hv21) rfl) ?_
              refine AOps.go [1] [] [] [4] 0 ⟨[(4, .tv (.bool v21))], []⟩ ?_ (Nat.zero_le _) trivial ?_
              · kernel_rfl
              refine AOps.nil ?_
              refine AWp.ret ?_
              cases h
              exact ⟨.inr rfl, rfl⟩

noncomputable def f16 (v1 : T31) (v2 : List T48) : Option (Bool × Int) :=
  (f20 v1).bind fun v3 => (cond (!v3) (some true) ((f35 v2).bind fun v4 => some (!v4))).bind fun v5 => cond v5 (some (false, (2 : Int))) ((f37 v1 v2).bind fun v6 => some (v6, (0 : Int)))

theorem f16_ok (v1 : T31) (v2 : List T48) {r : Bool × Int} (h : f16 v1 v2 = some r) : ACall Try.prog 16 [.agg [.str v1.f0, fzL 3 c48 v1.f1], .tv (fzL 3 c48 v2)] [] (.tup [.tv (.bool r.1), .tv (.int .i64 r.2)]) [] := by
  refine ACall.ofN (FF 17 0) (rs := [4, 5]) (env := [(4, .tv (.bool r.1)), (5, .tv (.int .i64 r.2))]) Try.func16 rfl Try.ntmps16 Try.results16 (by decide) (by decide) rfl (Nat.le_of_ble_eq_true rfl) rfl (get_ofN _ _ _ rfl) (ok_ofN _ rfl) ?_
  refine AWp.seq ?_
  refine AWp.start [0, 1, 2] [] [] [1, 2] 1 ⟨[(1, .tv (fzL 3 c48 v2)), (2, .pc 0 0)], [.cells 32 [.str v1.f0, fzL 3 c48 v1.f1]]⟩ rfl ?_ (Nat.zero_le _) trivial ?_
  · kernel_rfl
  refine AOps.nil ?_
  refine AWp.seq ?_
  refine AWp.seq ?_
  refine AWp.pin 0 rfl rfl ?_
  refine AWp.keepTo [1, 2] 0 ⟨[(1, .tv (fzL 3 c48 v2)), (2, .rp [.str v1.f0, fzL 3 c48 v1.f1])], []⟩ ?_ (Nat.zero_le _) ?_
  · kernel_rfl
  refine AWp.start [0] [1, 2, 3, 4, 5, 6, 7] [] [1, 2, 6] 0 ⟨[(1, .tv (fzL 3 c48 v2)), (2, .rp [.str v1.f0, fzL 3 c48 v1.f1]), (6, .agg [.str v1.f0, fzL 3 c48 v1.f1])], []⟩ rfl ?_ (Nat.zero_le _) trivial ?_
  · kernel_rfl
  obtain ⟨v3, hv3, h⟩ := of_bind h
  refine AOps.cons (AOne.callP (F := (FF 17 0)) _ rfl rfl rfl _ rfl rfl _ _ rfl Try.call20 [.agg [.str v1.f0, fzL 3 c48 v1.f1]] rfl rfl (f20_ok v1 hv3) rfl) ?_
  refine AOps.go [2, 3] [4, 5, 6, 7] [] [1, 2, 9] 0 ⟨[(1, .tv (fzL 3 c48 v2)), (2, .rp [.str v1.f0, fzL 3 c48 v1.f1]), (9, .tv (.bool (!v3)))], []⟩ ?_ (Nat.zero_le _) trivial ?_
  · kernel_rfl
  obtain ⟨v5, hc4, h⟩ := of_bind h
  refine AOps.cut [4, 5, 6, 7] [] (fun σ => σ = ⟨[(1, .tv (fzL 3 c48 v2)), (2, .rp [.str v1.f0, fzL 3 c48 v1.f1]), (13, .tv (.bool v5))], []⟩) ?_ fun σ' hJ => ?_
  · refine AOps.split (fun b => ⟨[(1, .tv (fzL 3 c48 v2)), (2, .rp [.str v1.f0, fzL 3 c48 v1.f1]), (9, .tv (.bool b))], []⟩) _ (fun hb => ?_) fun hb => ?_
    · replace hc4 := of_true hc4 hb
      refine AOps.go [4, 5, 6, 7] [] [] [1, 2, 13] 0 ⟨[(1, .tv (fzL 3 c48 v2)), (2, .rp [.str v1.f0, fzL 3 c48 v1.f1]), (13, .tv (.bool true))], []⟩ ?_ (Nat.zero_le _) trivial ?_
      · kernel_rfl
      cases hc4
      exact AOps.nil rfl
    · replace hc4 := of_false hc4 hb
      refine AOps.go [4] [5, 6, 7] [] [1, 2, 9, 10] 0 ⟨[(1, .tv (fzL 3 c48 v2)), (2, .rp [.str v1.f0, fzL 3 c48 v1.f1]), (9, .tv (.bool false)), (10, .tv (fzL 3 c48 v2))], []⟩ ?_ (Nat.zero_le _) trivial ?_
      · kernel_rfl
      obtain ⟨v4, hv4, hc4⟩ := of_bind hc4
      refine AOps.cons (AOne.callP (F := (FF 17 0)) _ rfl rfl rfl _ rfl rfl _ _ rfl Try.call35 [.tv (fzL 3 c48 v2)] rfl rfl (f35_ok v2 hv4) rfl) ?_
      refine AOps.go [6, 7] [] [] [1, 2, 13] 0 ⟨[(1, .tv (fzL 3 c48 v2)), (2, .rp [.str v1.f0, fzL 3 c48 v1.f1]), (13, .tv (.bool (!v4)))], []⟩ ?_ (Nat.zero_le _) trivial ?_
      · kernel_rfl
      cases hc4
      exact AOps.nil rfl
  subst hJ
  refine AOps.nil ?_
  refine AWp.cond rfl (fun hb => ?_) fun hb => ?_
  · replace h := of_true h hb
    refine AWp.keepTo [] 0 ⟨[], []⟩ ?_ (Nat.zero_le _) ?_
    · kernel_rfl
    refine AWp.seq ?_
    refine AWp.start [0, 1] [] [] [4, 5] 0 ⟨[(4, .tv (.bool false)), (5, .tv (.int .i64 (2 : Int)))], []⟩ rfl ?_ (Nat.zero_le _) trivial ?_
    · kernel_rfl
    refine AOps.nil ?_
    refine AWp.ret ?_
    cases h
    exact ⟨.inr rfl, rfl⟩
  · replace h := of_false h hb
    refine AWp.keepTo [1, 2] 0 ⟨[(1, .tv (fzL 3 c48 v2)), (2, .rp [.str v1.f0, fzL 3 c48 v1.f1])], []⟩ ?_ (Nat.zero_le _) ?_
    · kernel_rfl
    refine AWp.skip ?_
    refine AWp.seq ?_
    refine AWp.start [0, 1] [2, 3, 4] [] [14, 15] 0 ⟨[(14, .agg [.str v1.f0, fzL 3 c48 v1.f1]), (15, .tv (fzL 3 c48 v2))], []⟩ rfl ?_ (Nat.zero_le _) trivial ?_
    · kernel_rfl
    obtain ⟨v6, hv6, h⟩ := of_bind h
    refine AOps.cons (AOne.callP (F := (FF 17 0)) _ rfl rfl rfl _ rfl rfl _ _ rfl Try.call37 [.agg [.str v1.f0, fzL 3 c48 v1.f1], .tv (fzL 3 c48 v2)] rfl rfl (f37_ok v1 v2 hv6) rfl) ?_
    refine AOps.go [3, 4] [] [] [4, 5] 0 ⟨[(4, .tv (.bool v6)), (5, .tv (.int .i64 (0 : Int)))], []⟩ ?_ (Nat.zero_le _) trivial ?_
    · kernel_rfl
    refine AOps.nil ?_
    refine AWp.ret ?_
    cases h
    exact ⟨.inr rfl, rfl⟩

noncomputable def f4 (v1 : T31) (v2 : List T48) : Option Bool :=
  (f10 [v1]).bind fun v3 => (cond v3 (some true) (some (decide ((v2.length : Int) > (100 : Int))))).bind fun v4 => cond v4 ((f11 ).bind fun v5 => some v5) ((f14 v1 v2).bind fun v6 => (f16 v1 v2).bind fun v7 => (cond (v6.1 == v7.1) (some (v6.2 == v7.2)) (some false)).bind fun v8 => (cond v8 ((f11 ).bind fun v9 => some v9) (some false)).bind fun v10 => some v10)

theorem f4_ok (v1 : T31) (v2 : List T48) {r : Bool} (h : f4 v1 v2 = some r) : ACall Try.prog 4 [.agg [.str v1.f0, fzL 3 c48 v1.f1], .tv (fzL 3 c48 v2)] [] (.tv (.bool r)) [] := by
  refine ACall.of1 (FF 41 0) Try.func4 rfl Try.ntmps4 Try.results4 (Nat.le_of_ble_eq_true rfl) rfl rfl ?_
  refine AWp.seq ?_
  refine AWp.start [0, 1] [] [] [1, 2] 1 ⟨[(1, .tv (fzL 3 c48 v2)), (2, .pc 0 0)], [.cells 32 [.str v1.f0, fzL 3 c48 v1.f1]]⟩ rfl ?_ (Nat.zero_le _) trivial ?_
  · kernel_rfl
  refine AOps.nil ?_
  refine AWp.seq ?_
  refine AWp.seq ?_
  refine AWp.pin 0 rfl rfl ?_
  refine AWp.keepTo [1, 2] 0 ⟨[(1, .tv (fzL 3 c48 v2)), (2, .rp [.str v1.f0, fzL 3 c48 v1.f1])], []⟩ ?_ (Nat.zero_le _) ?_
  · kernel_rfl
  refine AWp.start [0, 1] [2, 3, 4, 5, 6, 7] [] [1, 2, 10] 0 ⟨[(1, .tv (fzL 3 c48 v2)), (2, .rp [.str v1.f0, fzL 3 c48 v1.f1]), (10, .tv (.own 2 32 1 (newRowF [.str v1.f0, fzL 3 c48 v1.f1] 2)))], []⟩ rfl ?_ (Nat.zero_le _) trivial ?_
  · kernel_rfl
  refine AOps.extL 10 c31 [v1] rfl rfl (row_at c31 2 (fun _ => rfl) [v1] _ rfl) ?_
  refine AOps.freezeL 10 c31 [v1] rfl (fun _ => rfl) ?_
  obtain ⟨v3, hv3, h⟩ := of_bind h
  refine AOps.cons (AOne.callP (F := (FF 41 0)) _ rfl rfl rfl _ rfl rfl _ _ rfl Try.call10 [.tv (fzL 2 c31 [v1])] rfl rfl (f10_ok [v1] hv3) rfl) ?_
  refine AOps.go [3] [4, 5, 6, 7] [] [1, 2, 12] 0 ⟨[(1, .tv (fzL 3 c48 v2)), (2, .rp [.str v1.f0, fzL 3 c48 v1.f1]), (12, .tv (.bool v3))], []⟩ ?_ (Nat.zero_le _) trivial ?_
  · kernel_rfl
  obtain ⟨v4, hc4, h⟩ := of_bind h
  refine AOps.cut [4, 5, 6, 7] [] (fun σ => σ = ⟨[(1, .tv (fzL 3 c48 v2)), (2, .rp [.str v1.f0, fzL 3 c48 v1.f1]), (16, .tv (.bool v4))], []⟩) ?_ fun σ' hJ => ?_
  · refine AOps.split (fun b => ⟨[(1, .tv (fzL 3 c48 v2)), (2, .rp [.str v1.f0, fzL 3 c48 v1.f1]), (12, .tv (.bool b))], []⟩) _ (fun hb => ?_) fun hb => ?_
    · replace hc4 := of_true hc4 hb
      refine AOps.go [4, 5, 6, 7] [] [] [1, 2, 16] 0 ⟨[(1, .tv (fzL 3 c48 v2)), (2, .rp [.str v1.f0, fzL 3 c48 v1.f1]), (16, .tv (.bool true))], []⟩ ?_ (Nat.zero_le _) trivial ?_
      · kernel_rfl
      cases hc4
      exact AOps.nil rfl
    · replace hc4 := of_false hc4 hb
      refine AOps.go [4, 5, 6, 7] [] [] [1, 2, 16] 0 ⟨[(1, .tv (fzL 3 c48 v2)), (2, .rp [.str v1.f0, fzL 3 c48 v1.f1]), (16, .tv (.bool (decide ((v2.length : Int) > (100 : Int)))))], []⟩ ?_ (Nat.zero_le _) trivial ?_
      · kernel_rfl
      cases hc4
      exact AOps.nil rfl
  subst hJ
  refine AOps.nil ?_
  refine AWp.cond rfl (fun hb => ?_) fun hb => ?_
  · replace h := of_true h hb
    refine AWp.keepTo [] 0 ⟨[], []⟩ ?_ (Nat.zero_le _) ?_
    · kernel_rfl
    refine AWp.seq ?_
    refine AWp.start [] [0, 1] [] [] 0 ⟨[], []⟩ rfl ?_ (Nat.zero_le _) trivial ?_
    · kernel_rfl
    obtain ⟨v5, hv5, h⟩ := of_bind h
    refine AOps.cons (AOne.callP (F := (FF 41 0)) _ rfl rfl rfl _ rfl rfl _ _ rfl Try.call11 [] rfl rfl (f11_ok  hv5) rfl) ?_
    refine AOps.go [1] [] [] [4] 0 ⟨[(4, .tv (.bool v5))], []⟩ ?_ (Nat.zero_le _) trivial ?_
    · kernel_rfl
    refine AOps.nil ?_
    refine AWp.ret ?_
    cases h
    exact ⟨.inr rfl, rfl⟩
  · replace h := of_false h hb
    refine AWp.keepTo [1, 2] 0 ⟨[(1, .tv (fzL 3 c48 v2)), (2, .rp [.str v1.f0, fzL 3 c48 v1.f1])], []⟩ ?_ (Nat.zero_le _) ?_
    · kernel_rfl
    refine AWp.skip ?_
    refine AWp.seq ?_
    refine AWp.start [0, 1] [2, 3, 4, 5, 6, 7] [] [1, 2, 19, 20] 0 ⟨[(1, .tv (fzL 3 c48 v2)), (2, .rp [.str v1.f0, fzL 3 c48 v1.f1]), (19, .agg [.str v1.f0, fzL 3 c48 v1.f1]), (20, .tv (fzL 3 c48 v2))], []⟩ rfl ?_ (Nat.zero_le _) trivial ?_
    · kernel_rfl
    obtain ⟨v6, hv6, h⟩ := of_bind h
    refine AOps.cons (AOne.callP (F := (FF 41 0)) _ rfl rfl rfl _ rfl rfl _ _ rfl Try.call14 [.agg [.str v1.f0, fzL 3 c48 v1.f1], .tv (fzL 3 c48 v2)] rfl rfl (f14_ok v1 v2 hv6) rfl) ?_
    refine AOps.go [3, 4, 5, 6, 7] [] [] [1, 2, 5, 6] 0 ⟨[(1, .tv (fzL 3 c48 v2)), (2, .rp [.str v1.f0, fzL 3 c48 v1.f1]), (5, .tv (.bool v6.1)), (6, .tv (.int .i64 v6.2))], []⟩ ?_ (Nat.zero_le _) trivial ?_
    · kernel_rfl
    refine AOps.nil ?_
    refine AWp.seq ?_
    refine AWp.start [0, 1] [2, 3, 4, 5, 6, 7] [] [5, 6, 25, 26] 0 ⟨[(5, .tv (.bool v6.1)), (6, .tv (.int .i64 v6.2)), (25, .agg [.str v1.f0, fzL 3 c48 v1.f1]), (26, .tv (fzL 3 c48 v2))], []⟩ rfl ?_ (Nat.zero_le _) trivial ?_
    · kernel_rfl
    obtain ⟨v7, hv7, h⟩ := of_bind h
    refine AOps.cons (AOne.callP (F := (FF 41 0)) _ rfl rfl rfl _ rfl rfl _ _ rfl Try.call16 [.agg [.str v1.f0, fzL 3 c48 v1.f1], .tv (fzL 3 c48 v2)] rfl rfl (f16_ok v1 v2 hv7) rfl) ?_
    refine AOps.go [3, 4, 5, 6, 7] [] [] [5, 6, 7, 8] 0 ⟨[(5, .tv (.bool v6.1)), (6, .tv (.int .i64 v6.2)), (7, .tv (.bool v7.1)), (8, .tv (.int .i64 v7.2))], []⟩ ?_ (Nat.zero_le _) trivial ?_
    · kernel_rfl
    refine AOps.nil ?_
    refine AWp.seq ?_
    refine AWp.start [0, 1, 2, 3] [4, 5, 6, 7, 8, 9, 10, 11] [] [6, 8, 33] 0 ⟨[(6, .tv (.int .i64 v6.2)), (8, .tv (.int .i64 v7.2)), (33, .tv (.bool (v6.1 == v7.1)))], []⟩ rfl ?_ (Nat.zero_le _) trivial ?_
    · kernel_rfl
    obtain ⟨v8, hc4, h⟩ := of_bind h
    refine AOps.cut [4, 5, 6, 7] [8, 9, 10, 11] (fun σ => σ = ⟨[(37, .tv (.bool v8))], []⟩) ?_ fun σ' hJ => ?_
    · refine AOps.split (fun b => ⟨[(6, .tv (.int .i64 v6.2)), (8, .tv (.int .i64 v7.2)), (33, .tv (.bool b))], []⟩) _ (fun hb => ?_) fun hb => ?_
      · replace hc4 := of_true hc4 hb
        refine AOps.go [4, 5, 6, 7] [] [] [37] 0 ⟨[(37, .tv (.bool (v6.2 == v7.2)))], []⟩ ?_ (Nat.zero_le _) trivial ?_
        · kernel_rfl
        cases hc4
        exact AOps.nil rfl
      · replace hc4 := of_false hc4 hb
        refine AOps.go [4, 5, 6, 7] [] [] [37] 0 ⟨[(37, .tv (.bool false))], []⟩ ?_ (Nat.zero_le _) trivial ?_
        · kernel_rfl
        cases hc4
        exact AOps.nil rfl
    subst hJ
    refine AOps.go [8] [9, 10, 11] [] [38] 0 ⟨[(38, .tv (.bool v8))], []⟩ ?_ (Nat.zero_le _) trivial ?_
    · kernel_rfl
    obtain ⟨v10, hc9, h⟩ := of_bind h
    refine AOps.cut [9, 10] [11] (fun σ => σ = ⟨[(40, .tv (.bool v10))], []⟩) ?_ fun σ' hJ => ?_
    · refine AOps.split (fun b => ⟨[(38, .tv (.bool b))], []⟩) _ (fun hb => ?_) fun hb => ?_
      · replace hc9 := of_true hc9 hb
        obtain ⟨v9, hv9, hc9⟩ := of_bind hc9
        refine AOps.cons (AOne.callP (F := (FF 41 0)) _ rfl rfl rfl _ rfl rfl _ _ rfl Try.call11 [] rfl rfl (f11_ok  hv9) rfl) ?_
        refine AOps.go [10] [] [] [40] 0 ⟨[(40, .tv (.bool v9))], []⟩ ?_ (Nat.zero_le _) trivial ?_
        · kernel_rfl
        cases hc9
        exact AOps.nil rfl
      · replace hc9 := of_false hc9 hb
        refine AOps.go [9, 10] [] [] [40] 0 ⟨[(40, .tv (.bool false))], []⟩ ?_ (Nat.zero_le _) trivial ?_
        · kernel_rfl
        cases hc9
        exact AOps.nil rfl
    subst hJ
    refine AOps.go [11] [] [] [4] 0 ⟨[(4, .tv (.bool v10))], []⟩ ?_ (Nat.zero_le _) trivial ?_
    · kernel_rfl
    refine AOps.nil ?_
    refine AWp.ret ?_
    cases h
    exact ⟨.inr rfl, rfl⟩

noncomputable def f17 (v1 : List T31) : Option (Int × Int × Int) :=
  (f29 v1).bind fun v2 => cond (!v2) (some ((0 : Int), (0 : Int), (2 : Int))) ((f31 v1).bind fun v3 => cond v3.2.2 (some (v3.1, v3.2.1, (8 : Int))) (some ((0 : Int), (0 : Int), (0 : Int))))

theorem f17_ok (v1 : List T31) {r : Int × Int × Int} (h : f17 v1 = some r) : ACall Try.prog 17 [.tv (fzL 2 c31 v1)] [] (.tup [.tv (.int .i64 r.1), .tv (.int .i64 r.2.1), .tv (.int .i64 r.2.2)]) [] := by
  refine ACall.ofN (FF 18 0) (rs := [2, 3, 4]) (env := [(2, .tv (.int .i64 r.1)), (3, .tv (.int .i64 r.2.1)), (4, .tv (.int .i64 r.2.2))]) Try.func17 rfl Try.ntmps17 Try.results17 (by decide) (by decide) rfl (Nat.le_of_ble_eq_true rfl) rfl (get_ofN _ _ _ rfl) (ok_ofN _ rfl) ?_
  refine AWp.seq ?_
  refine AWp.start [0, 1, 2] [] [] [0] 0 ⟨[(0, .tv (fzL 2 c31 v1))], []⟩ rfl ?_ (Nat.zero_le _) trivial ?_
  · kernel_rfl
  refine AOps.nil ?_
  refine AWp.seq ?_
  refine AWp.seq ?_
  refine AWp.start [0] [1, 2] [] [0, 6] 0 ⟨[(0, .tv (fzL 2 c31 v1)), (6, .tv (fzL 2 c31 v1))], []⟩ rfl ?_ (Nat.zero_le _) trivial ?_
  · kernel_rfl
  obtain ⟨v2, hv2, h⟩ := of_bind h
  refine AOps.cons (AOne.callP (F := (FF 18 0)) _ rfl rfl rfl _ rfl rfl _ _ rfl Try.call29 [.tv (fzL 2 c31 v1)] rfl rfl (f29_ok v1 hv2) rfl) ?_
  refine AOps.go [2] [] [] [0, 8] 0 ⟨[(0, .tv (fzL 2 c31 v1)), (8, .tv (.bool (!v2)))], []⟩ ?_ (Nat.zero_le _) trivial ?_
  · kernel_rfl
  refine AOps.nil ?_
  refine AWp.cond rfl (fun hb => ?_) fun hb => ?_
  · replace h := of_true h hb
    refine AWp.keepTo [] 0 ⟨[], []⟩ ?_ (Nat.zero_le _) ?_
    · kernel_rfl
    refine AWp.seq ?_
    refine AWp.start [0, 1, 2] [] [] [2, 3, 4] 0 ⟨[(2, .tv (.int .i64 (0 : Int))), (3, .tv (.int .i64 (0 : Int))), (4, .tv (.int .i64 (2 : Int)))], []⟩ rfl ?_ (Nat.zero_le _) trivial ?_
    · kernel_rfl
    refine AOps.nil ?_
    refine AWp.ret ?_
    cases h
    exact ⟨.inr rfl, rfl⟩
  · replace h := of_false h hb
    refine AWp.keepTo [0] 0 ⟨[(0, .tv (fzL 2 c31 v1))], []⟩ ?_ (Nat.zero_le _) ?_
    · kernel_rfl
    refine AWp.skip ?_
    refine AWp.seq ?_
    refine AWp.start [0] [1, 2, 3, 4, 5, 6, 7, 8] [] [10] 0 ⟨[(10, .tv (fzL 2 c31 v1))], []⟩ rfl ?_ (Nat.zero_le _) trivial ?_
    · kernel_rfl
    obtain ⟨v3, hv3, h⟩ := of_bind h
    refine AOps.cons (AOne.callP (F := (FF 18 0)) _ rfl rfl rfl _ rfl rfl _ _ rfl Try.call31 [.tv (fzL 2 c31 v1)] rfl rfl (f31_ok v1 hv3) rfl) ?_
    refine AOps.go [2, 3, 4, 5, 6, 7, 8] [] [] [2, 3, 5] 0 ⟨[(2, .tv (.int .i64 v3.1)), (3, .tv (.int .i64 v3.2.1)), (5, .tv (.bool v3.2.2))], []⟩ ?_ (Nat.zero_le _) trivial ?_
    · kernel_rfl
    refine AOps.nil ?_
    refine AWp.seq ?_
    refine AWp.seq ?_
    refine AWp.start [0] [] [] [2, 3, 15] 0 ⟨[(2, .tv (.int .i64 v3.1)), (3, .tv (.int .i64 v3.2.1)), (15, .tv (.bool v3.2.2))], []⟩ rfl ?_ (Nat.zero_le _) trivial ?_
    · kernel_rfl
    refine AOps.nil ?_
    refine AWp.cond rfl (fun hb => ?_) fun hb => ?_
    · replace h := of_true h hb
      refine AWp.keepTo [2, 3] 0 ⟨[(2, .tv (.int .i64 v3.1)), (3, .tv (.int .i64 v3.2.1))], []⟩ ?_ (Nat.zero_le _) ?_
      · kernel_rfl
      refine AWp.seq ?_
      refine AWp.start [0, 1, 2, 3, 4] [] [] [2, 3, 4] 0 ⟨[(2, .tv (.int .i64 v3.1)), (3, .tv (.int .i64 v3.2.1)), (4, .tv (.int .i64 (8 : Int)))], []⟩ rfl ?_ (Nat.zero_le _) trivial ?_
      · kernel_rfl
      refine AOps.nil ?_
      refine AWp.ret ?_
      cases h
      exact ⟨.inr rfl, rfl⟩
    · replace h := of_false h hb
      refine AWp.keepTo [] 0 ⟨[], []⟩ ?_ (Nat.zero_le _) ?_
      · kernel_rfl
      refine AWp.skip ?_
      refine AWp.seq ?_
      refine AWp.start [0, 1, 2] [] [] [2, 3, 4] 0 ⟨[(2, .tv (.int .i64 (0 : Int))), (3, .tv (.int .i64 (0 : Int))), (4, .tv (.int .i64 (0 : Int)))], []⟩ rfl ?_ (Nat.zero_le _) trivial ?_
      · kernel_rfl
      refine AOps.nil ?_
      refine AWp.ret ?_
      cases h
      exact ⟨.inr rfl, rfl⟩

noncomputable def f18 (v1 : List T31) : Option (Int × Int × Int) :=
  (f34 v1).bind fun v2 => cond (!v2) (some ((0 : Int), (0 : Int), (2 : Int))) ((f36 v1).bind fun v3 => cond v3.2.2 (some (v3.1, v3.2.1, (8 : Int))) (some ((0 : Int), (0 : Int), (0 : Int))))

theorem f18_ok (v1 : List T31) {r : Int × Int × Int} (h : f18 v1 = some r) : ACall Try.prog 18 [.tv (fzL 2 c31 v1)] [] (.tup [.tv (.int .i64 r.1), .tv (.int .i64 r.2.1), .tv (.int .i64 r.2.2)]) [] := by
  refine ACall.ofN (FF 20 0) (rs := [2, 3, 4]) (env := [(2, .tv (.int .i64 r.1)), (3, .tv (.int .i64 r.2.1)), (4, .tv (.int .i64 r.2.2))]) Try.func18 rfl Try.ntmps18 Try.results18 (by decide) (by decide) rfl (Nat.le_of_ble_eq_true rfl) rfl (get_ofN _ _ _ rfl) (ok_ofN _ rfl) ?_
  refine AWp.seq ?_
  refine AWp.start [0, 1, 2] [] [] [0] 0 ⟨[(0, .tv (fzL 2 c31 v1))], []⟩ rfl ?_ (Nat.zero_le _) trivial ?_
  · kernel_rfl
  refine AOps.nil ?_
  refine AWp.seq ?_
  refine AWp.seq ?_
  refine AWp.start [0] [1, 2] [] [0, 8] 0 ⟨[(0, .tv (fzL 2 c31 v1)), (8, .tv (fzL 2 c31 v1))], []⟩ rfl ?_ (Nat.zero_le _) trivial ?_
  · kernel_rfl
  obtain ⟨v2, hv2, h⟩ := of_bind h
  refine AOps.cons (AOne.callP (F := (FF 20 0)) _ rfl rfl rfl _ rfl rfl _ _ rfl Try.call34 [.tv (fzL 2 c31 v1)] rfl rfl (f34_ok v1 hv2) rfl) ?_
  refine AOps.go [2] [] [] [0, 10] 0 ⟨[(0, .tv (fzL 2 c31 v1)), (10, .tv (.bool (!v2)))], []⟩ ?_ (Nat.zero_le _) trivial ?_
  · kernel_rfl
  refine AOps.nil ?_
  refine AWp.cond rfl (fun hb => ?_) fun hb => ?_
  · replace h := of_true h hb
    refine AWp.keepTo [] 0 ⟨[], []⟩ ?_ (Nat.zero_le _) ?_
    · kernel_rfl
    refine AWp.seq ?_
    refine AWp.start [0, 1, 2] [] [] [2, 3, 4] 0 ⟨[(2, .tv (.int .i64 (0 : Int))), (3, .tv (.int .i64 (0 : Int))), (4, .tv (.int .i64 (2 : Int)))], []⟩ rfl ?_ (Nat.zero_le _) trivial ?_
    · kernel_rfl
    refine AOps.nil ?_
    refine AWp.ret ?_
    cases h
    exact ⟨.inr rfl, rfl⟩
  · replace h := of_false h hb
    refine AWp.keepTo [0] 0 ⟨[(0, .tv (fzL 2 c31 v1))], []⟩ ?_ (Nat.zero_le _) ?_
    · kernel_rfl
    refine AWp.skip ?_
    refine AWp.seq ?_
    refine AWp.seq ?_
    refine AWp.start [0] [1, 2, 3, 4, 5, 6, 7, 8] [] [12] 0 ⟨[(12, .tv (fzL 2 c31 v1))], []⟩ rfl ?_ (Nat.zero_le _) trivial ?_
    · kernel_rfl
    obtain ⟨v3, hv3, h⟩ := of_bind h
    refine AOps.cons (AOne.callP (F := (FF 20 0)) _ rfl rfl rfl _ rfl rfl _ _ rfl Try.call36 [.tv (fzL 2 c31 v1)] rfl rfl (f36_ok v1 hv3) rfl) ?_
    refine AOps.go [2, 3, 4, 5, 6, 7, 8] [] [] [5, 6, 7] 0 ⟨[(5, .tv (.int .i64 v3.1)), (6, .tv (.int .i64 v3.2.1)), (7, .tv (.bool v3.2.2))], []⟩ ?_ (Nat.zero_le _) trivial ?_
    · kernel_rfl
    refine AOps.nil ?_
    refine AWp.seq ?_
    refine AWp.start [0] [] [] [5, 6, 17] 0 ⟨[(5, .tv (.int .i64 v3.1)), (6, .tv (.int .i64 v3.2.1)), (17, .tv (.bool v3.2.2))], []⟩ rfl ?_ (Nat.zero_le _) trivial ?_
    · kernel_rfl
    refine AOps.nil ?_
    refine AWp.cond rfl (fun hb => ?_) fun hb => ?_
    · replace h := of_true h hb
      refine AWp.keepTo [5, 6] 0 ⟨[(5, .tv (.int .i64 v3.1)), (6, .tv (.int .i64 v3.2.1))], []⟩ ?_ (Nat.zero_le _) ?_
      · kernel_rfl
      refine AWp.seq ?_
      refine AWp.start [0, 1, 2, 3, 4] [] [] [2, 3, 4] 0 ⟨[(2, .tv (.int .i64 v3.1)), (3, .tv (.int .i64 v3.2.1)), (4, .tv (.int .i64 (8 : Int)))], []⟩ rfl ?_ (Nat.zero_le _) trivial ?_
      · kernel_rfl
      refine AOps.nil ?_
      refine AWp.ret ?_
      cases h
      exact ⟨.inr rfl, rfl⟩
    · replace h := of_false h hb
      refine AWp.keepTo [] 0 ⟨[], []⟩ ?_ (Nat.zero_le _) ?_
      · kernel_rfl
      refine AWp.skip ?_
      refine AWp.seq ?_
      refine AWp.start [0, 1, 2] [] [] [2, 3, 4] 0 ⟨[(2, .tv (.int .i64 (0 : Int))), (3, .tv (.int .i64 (0 : Int))), (4, .tv (.int .i64 (0 : Int)))], []⟩ rfl ?_ (Nat.zero_le _) trivial ?_
      · kernel_rfl
      refine AOps.nil ?_
      refine AWp.ret ?_
      cases h
      exact ⟨.inr rfl, rfl⟩

noncomputable def f5_b1 (v1 : List T31) (v6 : Int) : Option (Int ⊕ Out Bool Unit) :=
  cond (decide (v6 < (v1.length : Int))) (if (0 : Int) ≤ v6 ∧ v6 < (v1.length : Int) ∧ (0 : Int) ≤ v6 ∧ v6 < (v1.length : Int) then (f19 (v1.getD v6.toNat default)).bind fun v7 => (f20 (v1.getD v6.toNat default)).bind fun v8 => cond (!(v7 == v8)) (some (.inr (.ret false))) (some (.inl (w64 (v6 + (1 : Int))))) else none) (some (.inr (.go ())))

noncomputable def f5 (v1 : List T31) : Option Bool :=
  (f10 v1).bind fun v2 => cond v2 ((f11 ).bind fun v3 => some v3) ((f17 v1).bind fun v4 => (f18 v1).bind fun v5 => (iter (fun s => f5_b1 v1 s) (0 : Int)).bind fun y => match y with | .ret v9 => some v9 | .go _ => (cond (v4.1 == v5.1) (some (v4.2.1 == v5.2.1)) (some false)).bind fun v10 => (cond v10 (some (v4.2.2 == v5.2.2)) (some false)).bind fun v11 => (cond v11 ((f11 ).bind fun v12 => some v12) (some false)).bind fun v13 => some v13)

theorem f5_ok (v1 : List T31) {r : Bool} (h : f5 v1 = some r) : ACall Try.prog 5 [.tv (fzL 2 c31 v1)] [] (.tv (.bool r)) [] := by
  refine ACall.of1 (FF 58 0) Try.func5 rfl Try.ntmps5 Try.results5 (Nat.le_of_ble_eq_true rfl) rfl rfl ?_
  refine AWp.seq ?_
  refine AWp.start [0] [] [] [0] 0 ⟨[(0, .tv (fzL 2 c31 v1))], []⟩ rfl ?_ (Nat.zero_le _) trivial ?_
  · kernel_rfl
  refine AOps.nil ?_
  refine AWp.seq ?_
  refine AWp.seq ?_
  refine AWp.start [0] [1] [] [0, 10] 0 ⟨[(0, .tv (fzL 2 c31 v1)), (10, .tv (fzL 2 c31 v1))], []⟩ rfl ?_ (Nat.zero_le _) trivial ?_
  · kernel_rfl
  obtain ⟨v2, hv2, h⟩ := of_bind h
  refine AOps.cons (AOne.callP (F := (FF 58 0)) _ rfl rfl rfl _ rfl rfl _ _ rfl Try.call10 [.tv (fzL 2 c31 v1)] rfl rfl (f10_ok v1 hv2) rfl) ?_
  refine AOps.keepTo [0, 11] 0 ⟨[(0, .tv (fzL 2 c31 v1)), (11, .tv (.bool v2))], []⟩ ?_ (Nat.zero_le _) ?_
  · kernel_rfl
  refine AOps.nil ?_
  refine AWp.cond rfl (fun hb => ?_) fun hb => ?_
  · replace h := of_true h hb
    refine AWp.keepTo [] 0 ⟨[], []⟩ ?_ (Nat.zero_le _) ?_
    · kernel_rfl
    refine AWp.seq ?_
    refine AWp.start [] [0, 1] [] [] 0 ⟨[], []⟩ rfl ?_ (Nat.zero_le _) trivial ?_
    · kernel_rfl
    obtain ⟨v3, hv3, h⟩ := of_bind h
    refine AOps.cons (AOne.callP (F := (FF 58 0)) _ rfl rfl rfl _ rfl rfl _ _ rfl Try.call11 [] rfl rfl (f11_ok  hv3) rfl) ?_
    refine AOps.go [1] [] [] [2] 0 ⟨[(2, .tv (.bool v3))], []⟩ ?_ (Nat.zero_le _) trivial ?_
    · kernel_rfl
    refine AOps.nil ?_
    refine AWp.ret ?_
    cases h
    exact ⟨.inr rfl, rfl⟩
  · replace h := of_false h hb
    refine AWp.keepTo [0] 0 ⟨[(0, .tv (fzL 2 c31 v1))], []⟩ ?_ (Nat.zero_le _) ?_
    · kernel_rfl
    refine AWp.skip ?_
    refine AWp.seq ?_
    refine AWp.start [0] [1, 2, 3, 4, 5, 6, 7, 8] [] [0, 14] 0 ⟨[(0, .tv (fzL 2 c31 v1)), (14, .tv (fzL 2 c31 v1))], []⟩ rfl ?_ (Nat.zero_le _) trivial ?_
    · kernel_rfl
    obtain ⟨v4, hv4, h⟩ := of_bind h
    refine AOps.cons (AOne.callP (F := (FF 58 0)) _ rfl rfl rfl _ rfl rfl _ _ rfl Try.call17 [.tv (fzL 2 c31 v1)] rfl rfl (f17_ok v1 hv4) rfl) ?_
    refine AOps.go [2, 3, 4, 5, 6, 7, 8] [] [] [0, 3, 4, 5] 0 ⟨[(0, .tv (fzL 2 c31 v1)), (3, .tv (.int .i64 v4.1)), (4, .tv (.int .i64 v4.2.1)), (5, .tv (.int .i64 v4.2.2))], []⟩ ?_ (Nat.zero_le _) trivial ?_
    · kernel_rfl
    refine AOps.nil ?_
    refine AWp.seq ?_
    refine AWp.start [0] [1, 2, 3, 4, 5, 6, 7, 8] [] [0, 3, 4, 5, 20] 0 ⟨[(0, .tv (fzL 2 c31 v1)), (3, .tv (.int .i64 v4.1)), (4, .tv (.int .i64 v4.2.1)), (5, .tv (.int .i64 v4.2.2)), (20, .tv (fzL 2 c31 v1))], []⟩ rfl ?_ (Nat.zero_le _) trivial ?_
    · kernel_rfl
    obtain ⟨v5, hv5, h⟩ := of_bind h
    refine AOps.cons (AOne.callP (F := (FF 58 0)) _ rfl rfl rfl _ rfl rfl _ _ rfl Try.call18 [.tv (fzL 2 c31 v1)] rfl rfl (f18_ok v1 hv5) rfl) ?_
    refine AOps.go [2, 3, 4, 5, 6, 7, 8] [] [] [0, 3, 4, 5, 6, 7, 8] 0 ⟨[(0, .tv (fzL 2 c31 v1)), (3, .tv (.int .i64 v4.1)), (4, .tv (.int .i64 v4.2.1)), (5, .tv (.int .i64 v4.2.2)), (6, .tv (.int .i64 v5.1)), (7, .tv (.int .i64 v5.2.1)), (8, .tv (.int .i64 v5.2.2))], []⟩ ?_ (Nat.zero_le _) trivial ?_
    · kernel_rfl
    refine AOps.nil ?_
    refine AWp.seq ?_
    refine AWp.seq ?_
    refine AWp.start [0] [] [] [0, 3, 4, 5, 6, 7, 8, 9] 0 ⟨[(0, .tv (fzL 2 c31 v1)), (3, .tv (.int .i64 v4.1)), (4, .tv (.int .i64 v4.2.1)), (5, .tv (.int .i64 v4.2.2)), (6, .tv (.int .i64 v5.1)), (7, .tv (.int .i64 v5.2.1)), (8, .tv (.int .i64 v5.2.2)), (9, .tv (.int .i64 (0 : Int)))], []⟩ rfl ?_ (Nat.zero_le _) trivial ?_
    · kernel_rfl
    refine AOps.nil ?_
    refine AWp.block ?_
    obtain ⟨y, hy, h⟩ := of_bind h
    refine AWp.mono (AWp.loop (S := Int) (Y := Out Bool Unit) (fun s => ⟨[(0, .tv (fzL 2 c31 v1)), (3, .tv (.int .i64 v4.1)), (4, .tv (.int .i64 v4.2.1)), (5, .tv (.int .i64 v4.2.2)), (6, .tv (.int .i64 v5.1)), (7, .tv (.int .i64 v5.2.1)), (8, .tv (.int .i64 v5.2.2)), (9, .tv (.int .i64 s))], []⟩) (fun s => f5_b1 v1 s) (fun y e σ => match y with | .ret r => e = .ret ∧ σ = ⟨[(2, .tv (.bool r))], []⟩ | .go v => e = .exit 0 ∧ σ = ⟨[(3, .tv (.int .i64 v4.1)), (4, .tv (.int .i64 v4.2.1)), (5, .tv (.int .i64 v4.2.2)), (6, .tv (.int .i64 v5.1)), (7, .tv (.int .i64 v5.2.1)), (8, .tv (.int .i64 v5.2.2))], []⟩) ?_ hy) ?_
    · rintro v6 o h
      refine AWp.seq ?_
      refine AWp.seq ?_
      refine AWp.start [0, 1, 2, 3] [] [] [0, 3, 4, 5, 6, 7, 8, 9, 28] 0 ⟨[(0, .tv (fzL 2 c31 v1)), (3, .tv (.int .i64 v4.1)), (4, .tv (.int .i64 v4.2.1)), (5, .tv (.int .i64 v4.2.2)), (6, .tv (.int .i64 v5.1)), (7, .tv (.int .i64 v5.2.1)), (8, .tv (.int .i64 v5.2.2)), (9, .tv (.int .i64 v6)), (28, .tv (.bool (decide (v6 < (v1.length : Int)))))], []⟩ rfl ?_ (Nat.zero_le _) trivial ?_
      · kernel_rfl
      refine AOps.nil ?_
      refine AWp.cond rfl (fun hb => ?_) fun hb => ?_
      · replace h := of_true h hb
        refine AWp.keepTo [0, 3, 4, 5, 6, 7, 8, 9] 0 ⟨[(0, .tv (fzL 2 c31 v1)), (3, .tv (.int .i64 v4.1)), (4, .tv (.int .i64 v4.2.1)), (5, .tv (.int .i64 v4.2.2)), (6, .tv (.int .i64 v5.1)), (7, .tv (.int .i64 v5.2.1)), (8, .tv (.int .i64 v5.2.2)), (9, .tv (.int .i64 v6))], []⟩ ?_ (Nat.zero_le _) ?_
        · kernel_rfl
        refine AWp.skip ?_
        refine AWp.seq ?_
        refine AWp.block ?_
        refine AWp.seq ?_
        refine AWp.draw FFm _ (n := 11) rfl (ls := #[false, false, false, false, false, false, false, false, false, false, false]) rfl ?_ (fun _ h => h)
        obtain ⟨hg, h⟩ := of_guard h
        refine AAny.go (by kernel_rfl) [0, 1, 2, 3, 5, 6, 7, 8] (fuel' := 3) rfl [(0 : Int) ≤ v6, v6 < (v1.length : Int), (0 : Int) ≤ v6, v6 < (v1.length : Int)] #[true, true, true, true, false, true, true, true, true, false, false] [0, 3, 4, 5, 6, 7, 8, 9, 34, 39] 0 ⟨[(0, .tv (fzL 2 c31 v1)), (3, .tv (.int .i64 v4.1)), (4, .tv (.int .i64 v4.2.1)), (5, .tv (.int .i64 v4.2.2)), (6, .tv (.int .i64 v5.1)), (7, .tv (.int .i64 v5.2.1)), (8, .tv (.int .i64 v5.2.2)), (9, .tv (.int .i64 v6)), (34, .agg [.str ((v1.getD v6.toNat default).f0), fzL 3 c48 ((v1.getD v6.toNat default).f1)]), (39, .agg [.str ((v1.getD v6.toNat default).f0), fzL 3 c48 ((v1.getD v6.toNat default).f1)])], []⟩ ?_ (Nat.zero_le _) ⟨hg.1, hg.2.1, hg.2.2.1, hg.2.2.2⟩ ?_
        · kernel_rfl
        obtain ⟨v7, hv7, h⟩ := of_bind h
        refine AAny.serial (i := 4) (fuel := 2) (by kernel_rfl) (AOne.callP (F := (FF 58 0)) _ rfl rfl rfl _ rfl rfl _ _ rfl Try.call19 [.agg [.str ((v1.getD v6.toNat default).f0), fzL 3 c48 ((v1.getD v6.toNat default).f1)]] rfl rfl (f19_ok (v1.getD v6.toNat default) hv7) rfl) ?_
        refine AAny.keepTo [0, 3, 4, 5, 6, 7, 8, 9, 35, 39] 0 ⟨[(0, .tv (fzL 2 c31 v1)), (3, .tv (.int .i64 v4.1)), (4, .tv (.int .i64 v4.2.1)), (5, .tv (.int .i64 v4.2.2)), (6, .tv (.int .i64 v5.1)), (7, .tv (.int .i64 v5.2.1)), (8, .tv (.int .i64 v5.2.2)), (9, .tv (.int .i64 v6)), (35, .tv (.bool v7)), (39, .agg [.str ((v1.getD v6.toNat default).f0), fzL 3 c48 ((v1.getD v6.toNat default).f1)])], []⟩ #[true, true, true, true, true, true, true, true, true, false, false] ?_ rfl (Nat.zero_le _) ?_
        · kernel_rfl
        obtain ⟨v8, hv8, h⟩ := of_bind h
        refine AAny.serial (i := 9) (fuel := 1) (by kernel_rfl) (AOne.callP (F := (FF 58 0)) _ rfl rfl rfl _ rfl rfl _ _ rfl Try.call20 [.agg [.str ((v1.getD v6.toNat default).f0), fzL 3 c48 ((v1.getD v6.toNat default).f1)]] rfl rfl (f20_ok (v1.getD v6.toNat default) hv8) rfl) ?_
        refine AAny.keepTo [0, 3, 4, 5, 6, 7, 8, 9, 35, 40] 0 ⟨[(0, .tv (fzL 2 c31 v1)), (3, .tv (.int .i64 v4.1)), (4, .tv (.int .i64 v4.2.1)), (5, .tv (.int .i64 v4.2.2)), (6, .tv (.int .i64 v5.1)), (7, .tv (.int .i64 v5.2.1)), (8, .tv (.int .i64 v5.2.2)), (9, .tv (.int .i64 v6)), (35, .tv (.bool v7)), (40, .tv (.bool v8))], []⟩ #[true, true, true, true, true, true, true, true, true, true, false] ?_ rfl (Nat.zero_le _) ?_
        · kernel_rfl
        refine AAny.go (by kernel_rfl) [10] (fuel' := 0) rfl [] #[true, true, true, true, true, true, true, true, true, true, true] [0, 3, 4, 5, 6, 7, 8, 9, 41] 0 ⟨[(0, .tv (fzL 2 c31 v1)), (3, .tv (.int .i64 v4.1)), (4, .tv (.int .i64 v4.2.1)), (5, .tv (.int .i64 v4.2.2)), (6, .tv (.int .i64 v5.1)), (7, .tv (.int .i64 v5.2.1)), (8, .tv (.int .i64 v5.2.2)), (9, .tv (.int .i64 v6)), (41, .tv (.bool (!(v7 == v8))))], []⟩ ?_ (Nat.zero_le _) trivial ?_
        · kernel_rfl
        refine AAny.keepTo [0, 3, 4, 5, 6, 7, 8, 9, 41] 0 ⟨[(0, .tv (fzL 2 c31 v1)), (3, .tv (.int .i64 v4.1)), (4, .tv (.int .i64 v4.2.1)), (5, .tv (.int .i64 v4.2.2)), (6, .tv (.int .i64 v5.1)), (7, .tv (.int .i64 v5.2.1)), (8, .tv (.int .i64 v5.2.2)), (9, .tv (.int .i64 v6)), (41, .tv (.bool (!(v7 == v8))))], []⟩ _ ?_ rfl (Nat.zero_le _) (AAny.done (by kernel_rfl) ?_)
        · kernel_rfl
        refine AWp.cond rfl (fun hb => ?_) fun hb => ?_
        · replace h := of_true h hb
          refine AWp.keepTo [] 0 ⟨[], []⟩ ?_ (Nat.zero_le _) ?_
          · kernel_rfl
          refine AWp.seq ?_
          refine AWp.start [0] [] [] [2] 0 ⟨[(2, .tv (.bool false))], []⟩ rfl ?_ (Nat.zero_le _) trivial ?_
          · kernel_rfl
          refine AOps.nil ?_
          refine AWp.ret ?_
          cases h
          exact Or.inr ⟨_, rfl, by simp, rfl, rfl⟩
        · replace h := of_false h hb
          refine AWp.keepTo [0, 3, 4, 5, 6, 7, 8, 9] 0 ⟨[(0, .tv (fzL 2 c31 v1)), (3, .tv (.int .i64 v4.1)), (4, .tv (.int .i64 v4.2.1)), (5, .tv (.int .i64 v4.2.2)), (6, .tv (.int .i64 v5.1)), (7, .tv (.int .i64 v5.2.1)), (8, .tv (.int .i64 v5.2.2)), (9, .tv (.int .i64 v6))], []⟩ ?_ (Nat.zero_le _) ?_
          · kernel_rfl
          refine AWp.skip ?_
          refine AWp.start [0, 1, 2] [] [] [0, 3, 4, 5, 6, 7, 8, 9] 0 ⟨[(0, .tv (fzL 2 c31 v1)), (3, .tv (.int .i64 v4.1)), (4, .tv (.int .i64 v4.2.1)), (5, .tv (.int .i64 v4.2.2)), (6, .tv (.int .i64 v5.1)), (7, .tv (.int .i64 v5.2.1)), (8, .tv (.int .i64 v5.2.2)), (9, .tv (.int .i64 (w64 (v6 + (1 : Int)))))], []⟩ rfl ?_ (Nat.zero_le _) trivial ?_
          · kernel_rfl
          refine AOps.nil ?_
          cases h
          exact Or.inl ⟨_, rfl, rfl, rfl⟩
      · replace h := of_false h hb
        refine AWp.keepTo [3, 4, 5, 6, 7, 8] 0 ⟨[(3, .tv (.int .i64 v4.1)), (4, .tv (.int .i64 v4.2.1)), (5, .tv (.int .i64 v4.2.2)), (6, .tv (.int .i64 v5.1)), (7, .tv (.int .i64 v5.2.1)), (8, .tv (.int .i64 v5.2.2))], []⟩ ?_ (Nat.zero_le _) ?_
        · kernel_rfl
        refine AWp.exit ?_
        cases h
        exact Or.inr ⟨_, rfl, by simp, rfl, rfl⟩
    · intro e σ hp
      rcases y with v9 | _
      · obtain ⟨rfl, rfl⟩ := hp
        cases h
        exact ⟨.inr rfl, rfl⟩
      · obtain ⟨rfl, rfl⟩ := hp
        refine AWp.seq ?_
        refine AWp.start [0, 1, 2, 3] [4, 5, 6, 7, 8, 9, 10, 11, 12, 13, 14, 15, 16] [] [4, 5, 7, 8, 45] 0 ⟨[(4, .tv (.int .i64 v4.2.1)), (5, .tv (.int .i64 v4.2.2)), (7, .tv (.int .i64 v5.2.1)), (8, .tv (.int .i64 v5.2.2)), (45, .tv (.bool (v4.1 == v5.1)))], []⟩ rfl ?_ (Nat.zero_le _) trivial ?_
        · kernel_rfl
        obtain ⟨v10, hc4, h⟩ := of_bind h
        refine AOps.cut [4, 5, 6, 7] [8, 9, 10, 11, 12, 13, 14, 15, 16] (fun σ => σ = ⟨[(5, .tv (.int .i64 v4.2.2)), (8, .tv (.int .i64 v5.2.2)), (49, .tv (.bool v10))], []⟩) ?_ fun σ' hJ => ?_
        · refine AOps.split (fun b => ⟨[(4, .tv (.int .i64 v4.2.1)), (5, .tv (.int .i64 v4.2.2)), (7, .tv (.int .i64 v5.2.1)), (8, .tv (.int .i64 v5.2.2)), (45, .tv (.bool b))], []⟩) _ (fun hb => ?_) fun hb => ?_
          · replace hc4 := of_true hc4 hb
            refine AOps.go [4, 5, 6, 7] [] [] [5, 8, 49] 0 ⟨[(5, .tv (.int .i64 v4.2.2)), (8, .tv (.int .i64 v5.2.2)), (49, .tv (.bool (v4.2.1 == v5.2.1)))], []⟩ ?_ (Nat.zero_le _) trivial ?_
            · kernel_rfl
            cases hc4
            exact AOps.nil rfl
          · replace hc4 := of_false hc4 hb
            refine AOps.go [4, 5, 6, 7] [] [] [5, 8, 49] 0 ⟨[(5, .tv (.int .i64 v4.2.2)), (8, .tv (.int .i64 v5.2.2)), (49, .tv (.bool false))], []⟩ ?_ (Nat.zero_le _) trivial ?_
            · kernel_rfl
            cases hc4
            exact AOps.nil rfl
        subst hJ
        refine AOps.go [8] [9, 10, 11, 12, 13, 14, 15, 16] [] [5, 8, 50] 0 ⟨[(5, .tv (.int .i64 v4.2.2)), (8, .tv (.int .i64 v5.2.2)), (50, .tv (.bool v10))], []⟩ ?_ (Nat.zero_le _) trivial ?_
        · kernel_rfl
        obtain ⟨v11, hc9, h⟩ := of_bind h
        refine AOps.cut [9, 10, 11, 12] [13, 14, 15, 16] (fun σ => σ = ⟨[(54, .tv (.bool v11))], []⟩) ?_ fun σ' hJ => ?_
        · refine AOps.split (fun b => ⟨[(5, .tv (.int .i64 v4.2.2)), (8, .tv (.int .i64 v5.2.2)), (50, .tv (.bool b))], []⟩) _ (fun hb => ?_) fun hb => ?_
          · replace hc9 := of_true hc9 hb
            refine AOps.go [9, 10, 11, 12] [] [] [54] 0 ⟨[(54, .tv (.bool (v4.2.2 == v5.2.2)))], []⟩ ?_ (Nat.zero_le _) trivial ?_
            · kernel_rfl
            cases hc9
            exact AOps.nil rfl
          · replace hc9 := of_false hc9 hb
            refine AOps.go [9, 10, 11, 12] [] [] [54] 0 ⟨[(54, .tv (.bool false))], []⟩ ?_ (Nat.zero_le _) trivial ?_
            · kernel_rfl
            cases hc9
            exact AOps.nil rfl
        subst hJ
        refine AOps.go [13] [14, 15, 16] [] [55] 0 ⟨[(55, .tv (.bool v11))], []⟩ ?_ (Nat.zero_le _) trivial ?_
        · kernel_rfl
        obtain ⟨v13, hc14, h⟩ := of_bind h
        refine AOps.cut [14, 15] [16] (fun σ => σ = ⟨[(57, .tv (.bool v13))], []⟩) ?_ fun σ' hJ => ?_
        · refine AOps.split (fun b => ⟨[(55, .tv (.bool b))], []⟩) _ (fun hb => ?_) fun hb => ?_
          · replace hc14 := of_true hc14 hb
            obtain ⟨v12, hv12, hc14⟩ := of_bind hc14
            refine AOps.cons (AOne.callP (F := (FF 58 0)) _ rfl rfl rfl _ rfl rfl _ _ rfl Try.call11 [] rfl rfl (f11_ok  hv12) rfl) ?_
            refine AOps.go [15] [] [] [57] 0 ⟨[(57, .tv (.bool v12))], []⟩ ?_ (Nat.zero_le _) trivial ?_
            · kernel_rfl
            cases hc14
            exact AOps.nil rfl
          · replace hc14 := of_false hc14 hb
            refine AOps.go [14, 15] [] [] [57] 0 ⟨[(57, .tv (.bool false))], []⟩ ?_ (Nat.zero_le _) trivial ?_
            · kernel_rfl
            cases hc14
            exact AOps.nil rfl
        subst hJ
        refine AOps.go [16] [] [] [2] 0 ⟨[(2, .tv (.bool v13))], []⟩ ?_ (Nat.zero_le _) trivial ?_
        · kernel_rfl
        refine AOps.nil ?_
        refine AWp.ret ?_
        cases h
        exact ⟨.inr rfl, rfl⟩

noncomputable def f6_j1 (v1 : List T31) (v2 : List T48) (v7 : List T31) : Option Bool :=
  (f17 v1).bind fun v8 => (f17 v7).bind fun v9 => (f12 v1 v2).bind fun v10 => (f12 v7 v2).bind fun v11 => (cond (v8.2.2 == v9.2.2) (cond (v10.2 == v11.2) (cond (v10.2 != (0 : Int)) ((f11 ).bind fun v13 => some v13) (if (0 : Int) ≤ v10.1 ∧ v10.1 < (v1.length : Int) ∧ (0 : Int) ≤ v11.1 ∧ v11.1 < (v7.length : Int) then cond (((v1.getD (Int.toNat v10.1) default).f0) == ((v7.getD (Int.toNat v11.1) default).f0)) ((f11 ).bind fun v14 => some v14) (some false) else none)) (some false)) (some false)).bind fun v12 => some v12

noncomputable def f6_b2 (v1 : List T31) (v3 : Int) (v15 : List T31) (v16 : Int) : Option (((List T31) × Int) ⊕ Out Bool (List T31)) :=
  (cond (Int.tmod v3 (2 : Int) != (0 : Int)) (some (decide (v16 < w64 (Int.tdiv ((([] : List T31) ++ v1).length : Int) (2 : Int))))) (some false)).bind fun v18 => cond v18 (if (0 : Int) ≤ w64 ((w64 (((([] : List T31) ++ v1).length : Int) - (1 : Int))) - v16) ∧ w64 ((w64 (((([] : List T31) ++ v1).length : Int) - (1 : Int))) - v16) < (v15.length : Int) ∧ (0 : Int) ≤ v16 ∧ v16 < (v15.length : Int) then if (0 : Int) ≤ v16 ∧ v16 < (v15.length : Int) then if (0 : Int) ≤ w64 ((w64 (((([] : List T31) ++ v1).length : Int) - (1 : Int))) - v16) ∧ w64 ((w64 (((([] : List T31) ++ v1).length : Int) - (1 : Int))) - v16) < ((v15.set v16.toNat (v15.getD (Int.toNat (w64 ((w64 (((([] : List T31) ++ v1).length : Int) - (1 : Int))) - v16))) default)).length : Int) then some (.inl ((v15.set v16.toNat (v15.getD (Int.toNat (w64 ((w64 (((([] : List T31) ++ v1).length : Int) - (1 : Int))) - v16))) default)).set (Int.toNat (w64 ((w64 (((([] : List T31) ++ v1).length : Int) - (1 : Int))) - v16))) (v15.getD v16.toNat default), w64 (v16 + (1 : Int)))) else none else none else none) (some (.inr (.go v15)))

noncomputable def f6 (v1 : List T31) (v2 : List T48) (v3 : Int) : Option Bool :=
  (f10 v1).bind fun v4 => (cond v4 (some true) (some (decide ((v2.length : Int) > (100 : Int))))).bind fun v5 => cond v5 ((f11 ).bind fun v6 => some v6) (if (([] : List T31).length + v1.length) * 40 ≤ 140737488355328 then cond (decide (((([] : List T31) ++ v1).length : Int) > (0 : Int))) (if ((([] : List T31) ++ v1).length : Int) ≠ (0 : Int) ∧ ((([] : List T31) ++ v1).length : Int) ≠ (0 : Int) then if (0 : Int) ≤ Int.tmod (w64 ((Int.tmod v3 ((([] : List T31) ++ v1).length : Int)) + ((([] : List T31) ++ v1).length : Int))) ((([] : List T31) ++ v1).length : Int) ∧ Int.tmod (w64 ((Int.tmod v3 ((([] : List T31) ++ v1).length : Int)) + ((([] : List T31) ++ v1).length : Int))) ((([] : List T31) ++ v1).length : Int) ≤ (v1.length : Int) then if (0 : Int) ≤ Int.tmod (w64 ((Int.tmod v3 ((([] : List T31) ++ v1).length : Int)) + ((([] : List T31) ++ v1).length : Int))) ((([] : List T31) ++ v1).length : Int) ∧ Int.tmod (w64 ((Int.tmod v3 ((([] : List T31) ++ v1).length : Int)) + ((([] : List T31) ++ v1).length : Int))) ((([] : List T31) ++ v1).length : Int) ≤ (v1.length : Int) then if (([] : List T31).length + ((v1.take (Int.toNat (v1.length : Int))).drop (Int.toNat (Int.tmod (w64 ((Int.tmod v3 ((([] : List T31) ++ v1).length : Int)) + ((([] : List T31) ++ v1).length : Int))) ((([] : List T31) ++ v1).length : Int)))).length) * 40 ≤ 140737488355328 then if ((([] : List T31) ++ ((v1.take (Int.toNat (v1.length : Int))).drop (Int.toNat (Int.tmod (w64 ((Int.tmod v3 ((([] : List T31) ++ v1).length : Int)) + ((([] : List T31) ++ v1).length : Int))) ((([] : List T31) ++ v1).length : Int))))).length + ((v1.take (Int.toNat (Int.tmod (w64 ((Int.tmod v3 ((([] : List T31) ++ v1).length : Int)) + ((([] : List T31) ++ v1).length : Int))) ((([] : List T31) ++ v1).length : Int)))).drop 0).length) * 40 ≤ 140737488355328 then (iter (fun s => f6_b2 v1 v3 s.1 s.2) ((([] : List T31) ++ ((v1.take (Int.toNat (v1.length : Int))).drop (Int.toNat (Int.tmod (w64 ((Int.tmod v3 ((([] : List T31) ++ v1).length : Int)) + ((([] : List T31) ++ v1).length : Int))) ((([] : List T31) ++ v1).length : Int))))) ++ ((v1.take (Int.toNat (Int.tmod (w64 ((Int.tmod v3 ((([] : List T31) ++ v1).length : Int)) + ((([] : List T31) ++ v1).length : Int))) ((([] : List T31) ++ v1).length : Int)))).drop 0), (0 : Int))).bind fun y => match y with | .ret v19 => some v19 | .go v17 => f6_j1 v1 v2 v17 else none else none else none else none else none) (f6_j1 v1 v2 (([] : List T31) ++ v1)) else none)

theorem f6_ok (v1 : List T31) (v2 : List T48) (v3 : Int) {r : Bool} (h : f6 v1 v2 v3 = some r) : ACall Try.prog 6 [.tv (fzL 2 c31 v1), .tv (fzL 3 c48 v2), .tv (.int .i64 v3)] [] (.tv (.bool r)) [] := by
  refine ACall.of1 (FF 135 0) Try.func6 rfl Try.ntmps6 Try.results6 (Nat.le_of_ble_eq_true rfl) rfl rfl ?_
  refine AWp.seq ?_
  refine AWp.start [0] [] [] [0, 1, 2] 0 ⟨[(0, .tv (fzL 2 c31 v1)), (1, .tv (fzL 3 c48 v2)), (2, .tv (.int .i64 v3))], []⟩ rfl ?_ (Nat.zero_le _) trivial ?_
  · kernel_rfl
  refine AOps.nil ?_
  refine AWp.seq ?_
  refine AWp.seq ?_
  refine AWp.start [0] [1, 2, 3, 4, 5, 6] [] [0, 1, 2, 21] 0 ⟨[(0, .tv (fzL 2 c31 v1)), (1, .tv (fzL 3 c48 v2)), (2, .tv (.int .i64 v3)), (21, .tv (fzL 2 c31 v1))], []⟩ rfl ?_ (Nat.zero_le _) trivial ?_
  · kernel_rfl
  obtain ⟨v4, hv4, h⟩ := of_bind h
  refine AOps.cons (AOne.callP (F := (FF 135 0)) _ rfl rfl rfl _ rfl rfl _ _ rfl Try.call10 [.tv (fzL 2 c31 v1)] rfl rfl (f10_ok v1 hv4) rfl) ?_
  refine AOps.go [2] [3, 4, 5, 6] [] [0, 1, 2, 23] 0 ⟨[(0, .tv (fzL 2 c31 v1)), (1, .tv (fzL 3 c48 v2)), (2, .tv (.int .i64 v3)), (23, .tv (.bool v4))], []⟩ ?_ (Nat.zero_le _) trivial ?_
  · kernel_rfl
  obtain ⟨v5, hc3, h⟩ := of_bind h
  refine AOps.cut [3, 4, 5, 6] [] (fun σ => σ = ⟨[(0, .tv (fzL 2 c31 v1)), (1, .tv (fzL 3 c48 v2)), (2, .tv (.int .i64 v3)), (27, .tv (.bool v5))], []⟩) ?_ fun σ' hJ => ?_
  · refine AOps.split (fun b => ⟨[(0, .tv (fzL 2 c31 v1)), (1, .tv (fzL 3 c48 v2)), (2, .tv (.int .i64 v3)), (23, .tv (.bool b))], []⟩) _ (fun hb => ?_) fun hb => ?_
    · replace hc3 := of_true hc3 hb
      refine AOps.go [3, 4, 5, 6] [] [] [0, 1, 2, 27] 0 ⟨[(0, .tv (fzL 2 c31 v1)), (1, .tv (fzL 3 c48 v2)), (2, .tv (.int .i64 v3)), (27, .tv (.bool true))], []⟩ ?_ (Nat.zero_le _) trivial ?_
      · kernel_rfl
      cases hc3
      exact AOps.nil rfl
    · replace hc3 := of_false hc3 hb
      refine AOps.go [3, 4, 5, 6] [] [] [0, 1, 2, 27] 0 ⟨[(0, .tv (fzL 2 c31 v1)), (1, .tv (fzL 3 c48 v2)), (2, .tv (.int .i64 v3)), (27, .tv (.bool (decide ((v2.length : Int) > (100 : Int)))))], []⟩ ?_ (Nat.zero_le _) trivial ?_
      · kernel_rfl
      cases hc3
      exact AOps.nil rfl
  subst hJ
  refine AOps.nil ?_
  refine AWp.cond rfl (fun hb => ?_) fun hb => ?_
  · replace h := of_true h hb
    refine AWp.keepTo [] 0 ⟨[], []⟩ ?_ (Nat.zero_le _) ?_
    · kernel_rfl
    refine AWp.seq ?_
    refine AWp.start [] [0, 1] [] [] 0 ⟨[], []⟩ rfl ?_ (Nat.zero_le _) trivial ?_
    · kernel_rfl
    obtain ⟨v6, hv6, h⟩ := of_bind h
    refine AOps.cons (AOne.callP (F := (FF 135 0)) _ rfl rfl rfl _ rfl rfl _ _ rfl Try.call11 [] rfl rfl (f11_ok  hv6) rfl) ?_
    refine AOps.go [1] [] [] [6] 0 ⟨[(6, .tv (.bool v6))], []⟩ ?_ (Nat.zero_le _) trivial ?_
    · kernel_rfl
    refine AOps.nil ?_
    refine AWp.ret ?_
    cases h
    exact ⟨.inr rfl, rfl⟩
  · replace h := of_false h hb
    refine AWp.keepTo [0, 1, 2] 0 ⟨[(0, .tv (fzL 2 c31 v1)), (1, .tv (fzL 3 c48 v2)), (2, .tv (.int .i64 v3))], []⟩ ?_ (Nat.zero_le _) ?_
    · kernel_rfl
    refine AWp.skip ?_
    refine AWp.seq ?_
    refine AWp.start [0] [1, 2, 3] [] [0, 1, 2, 29] 0 ⟨[(0, .tv (fzL 2 c31 v1)), (1, .tv (fzL 3 c48 v2)), (2, .tv (.int .i64 v3)), (29, .tv (.own 2 32 0 (newRowF [] 2)))], []⟩ rfl ?_ (Nat.zero_le _) trivial ?_
    · kernel_rfl
    refine AOps.extL 29 c31 ([] : List T31) rfl rfl (row_at c31 2 (fun _ => rfl) ([] : List T31) _ rfl) ?_
    obtain ⟨hg, h⟩ := of_guard h
    refine AOps.go [1, 2] [3] [(([] : List T31).length + v1.length) * 40 ≤ 140737488355328, PlainTo (([] : List T31).length) (fun i => c31 (([] : List T31).getD i default)), PlainTo v1.length (fun i => c31 (v1.getD i default))] [0, 1, 2, 31] 0 ⟨[(0, .tv (fzL 2 c31 v1)), (1, .tv (fzL 3 c48 v2)), (2, .tv (.int .i64 v3)), (31, .tv (.own 2 32 (([] : List T31).length + v1.length) (appF (([] : List T31).length) (fun i => c31 (([] : List T31).getD i default)) (fun i => c31 (v1.getD i default)))))], []⟩ ?_ (Nat.zero_le _) ⟨hg, (fun _ _ => rfl), (fun _ _ => rfl)⟩ ?_
    · kernel_rfl
    refine AOps.extL 31 c31 (([] : List T31) ++ v1) rfl (by simp) (app_at c31 ([] : List T31) v1) ?_
    refine AOps.go [3] [] [] [0, 1, 2, 7] 0 ⟨[(0, .tv (fzL 2 c31 v1)), (1, .tv (fzL 3 c48 v2)), (2, .tv (.int .i64 v3)), (7, .tv (ownL 2 32 c31 (([] : List T31) ++ v1)))], []⟩ ?_ (Nat.zero_le _) trivial ?_
    · kernel_rfl
    refine AOps.nil ?_
    refine AWp.join (V := (List T31)) (fun w => ⟨[(0, .tv (fzL 2 c31 v1)), (1, .tv (fzL 3 c48 v2)), (7, .tv (ownL 2 32 c31 w))], []⟩) (fun w => f6_j1 v1 v2 w = some r) ?_ ?_
    · refine AWp.seq ?_
      refine AWp.start [0, 1, 2] [] [] [0, 1, 2, 7, 8] 0 ⟨[(0, .tv (fzL 2 c31 v1)), (1, .tv (fzL 3 c48 v2)), (2, .tv (.int .i64 v3)), (7, .tv (ownL 2 32 c31 (([] : List T31) ++ v1))), (8, .tv (.int .i64 ((([] : List T31) ++ v1).length : Int)))], []⟩ rfl ?_ (Nat.zero_le _) trivial ?_
      · kernel_rfl
      refine AOps.nil ?_
      refine AWp.seq ?_
      refine AWp.start [0, 1] [] [] [0, 1, 2, 7, 8, 35] 0 ⟨[(0, .tv (fzL 2 c31 v1)), (1, .tv (fzL 3 c48 v2)), (2, .tv (.int .i64 v3)), (7, .tv (ownL 2 32 c31 (([] : List T31) ++ v1))), (8, .tv (.int .i64 ((([] : List T31) ++ v1).length : Int))), (35, .tv (.bool (decide (((([] : List T31) ++ v1).length : Int) > (0 : Int)))))], []⟩ rfl ?_ (Nat.zero_le _) trivial ?_
      · kernel_rfl
      refine AOps.nil ?_
      refine AWp.cond rfl (fun hb => ?_) fun hb => ?_
      · replace h := of_true h hb
        refine AWp.keepTo [0, 1, 2, 8] 0 ⟨[(0, .tv (fzL 2 c31 v1)), (1, .tv (fzL 3 c48 v2)), (2, .tv (.int .i64 v3)), (8, .tv (.int .i64 ((([] : List T31) ++ v1).length : Int)))], []⟩ ?_ (Nat.zero_le _) ?_
        · kernel_rfl
        refine AWp.seq ?_
        obtain ⟨hg, h⟩ := of_guard h
        refine AWp.start [0, 1, 2, 3, 4, 5, 6, 7] [] [((([] : List T31) ++ v1).length : Int) ≠ (0 : Int), ((([] : List T31) ++ v1).length : Int) ≠ (0 : Int)] [0, 1, 2, 8, 9] 0 ⟨[(0, .tv (fzL 2 c31 v1)), (1, .tv (fzL 3 c48 v2)), (2, .tv (.int .i64 v3)), (8, .tv (.int .i64 ((([] : List T31) ++ v1).length : Int))), (9, .tv (.int .i64 (Int.tmod (w64 ((Int.tmod v3 ((([] : List T31) ++ v1).length : Int)) + ((([] : List T31) ++ v1).length : Int))) ((([] : List T31) ++ v1).length : Int))))], []⟩ rfl ?_ (Nat.zero_le _) ⟨hg.1, hg.2⟩ ?_
        · kernel_rfl
        refine AOps.nil ?_
        refine AWp.seq ?_
        refine AWp.draw FFm _ (n := 10) rfl (ls := #[false, false, false, false, false, false, false, false, false, false]) rfl ?_ (fun _ h => h)
        obtain ⟨hg, h⟩ := of_guard h
        refine AAny.go (by kernel_rfl) [1, 2, 3] (fuel' := 7) rfl [(0 : Int) ≤ Int.tmod (w64 ((Int.tmod v3 ((([] : List T31) ++ v1).length : Int)) + ((([] : List T31) ++ v1).length : Int))) ((([] : List T31) ++ v1).length : Int), Int.tmod (w64 ((Int.tmod v3 ((([] : List T31) ++ v1).length : Int)) + ((([] : List T31) ++ v1).length : Int))) ((([] : List T31) ++ v1).length : Int) ≤ (v1.length : Int), (v1.length : Int) ≤ (v1.length : Int)] #[false, true, true, true, false, false, false, false, false, false] [0, 1, 2, 8, 9, 46] 0 ⟨[(0, .tv (fzL 2 c31 v1)), (1, .tv (fzL 3 c48 v2)), (2, .tv (.int .i64 v3)), (8, .tv (.int .i64 ((([] : List T31) ++ v1).length : Int))), (9, .tv (.int .i64 (Int.tmod (w64 ((Int.tmod v3 ((([] : List T31) ++ v1).length : Int)) + ((([] : List T31) ++ v1).length : Int))) ((([] : List T31) ++ v1).length : Int)))), (46, .tv (.fz 2 ((Int.toNat (v1.length : Int)) - (Int.toNat (Int.tmod (w64 ((Int.tmod v3 ((([] : List T31) ++ v1).length : Int)) + ((([] : List T31) ++ v1).length : Int))) ((([] : List T31) ++ v1).length : Int)))) (fun i => c31 (v1.getD ((Int.toNat (Int.tmod (w64 ((Int.tmod v3 ((([] : List T31) ++ v1).length : Int)) + ((([] : List T31) ++ v1).length : Int))) ((([] : List T31) ++ v1).length : Int))) + i) default))))], []⟩ ?_ (Nat.zero_le _) ⟨hg.1, hg.2, (Int.le_refl (v1.length : Int))⟩ ?_
        · kernel_rfl
        have hb : (Int.toNat (v1.length : Int)) ≤ v1.length := by have := (Int.le_refl (v1.length : Int)); omega
        refine AAny.extFzL (s := 46) rfl (sub_len v1 (Int.toNat (Int.tmod (w64 ((Int.tmod v3 ((([] : List T31) ++ v1).length : Int)) + ((([] : List T31) ++ v1).length : Int))) ((([] : List T31) ++ v1).length : Int))) (Int.toNat (v1.length : Int)) hb) (sub_at c31 v1 (Int.toNat (Int.tmod (w64 ((Int.tmod v3 ((([] : List T31) ++ v1).length : Int)) + ((([] : List T31) ++ v1).length : Int))) ((([] : List T31) ++ v1).length : Int))) (Int.toNat (v1.length : Int)) hb) ?_
        obtain ⟨hg, h⟩ := of_guard h
        refine AAny.go (by kernel_rfl) [5, 6, 7] (fuel' := 4) rfl [(0 : Int) ≤ (0 : Int), (0 : Int) ≤ Int.tmod (w64 ((Int.tmod v3 ((([] : List T31) ++ v1).length : Int)) + ((([] : List T31) ++ v1).length : Int))) ((([] : List T31) ++ v1).length : Int), Int.tmod (w64 ((Int.tmod v3 ((([] : List T31) ++ v1).length : Int)) + ((([] : List T31) ++ v1).length : Int))) ((([] : List T31) ++ v1).length : Int) ≤ (v1.length : Int)] #[false, true, true, true, false, true, true, true, false, false] [0, 1, 2, 8, 46, 50] 0 ⟨[(0, .tv (fzL 2 c31 v1)), (1, .tv (fzL 3 c48 v2)), (2, .tv (.int .i64 v3)), (8, .tv (.int .i64 ((([] : List T31) ++ v1).length : Int))), (46, .tv (fzL 2 c31 ((v1.take (Int.toNat (v1.length : Int))).drop (Int.toNat (Int.tmod (w64 ((Int.tmod v3 ((([] : List T31) ++ v1).length : Int)) + ((([] : List T31) ++ v1).length : Int))) ((([] : List T31) ++ v1).length : Int)))))), (50, .tv (.fz 2 ((Int.toNat (Int.tmod (w64 ((Int.tmod v3 ((([] : List T31) ++ v1).length : Int)) + ((([] : List T31) ++ v1).length : Int))) ((([] : List T31) ++ v1).length : Int))) - 0) (fun i => c31 (v1.getD (0 + i) default))))], []⟩ ?_ (Nat.zero_le _) ⟨(by decide : (0 : Int) ≤ (0 : Int)), hg.1, hg.2⟩ ?_
        · kernel_rfl
        have hb : (Int.toNat (Int.tmod (w64 ((Int.tmod v3 ((([] : List T31) ++ v1).length : Int)) + ((([] : List T31) ++ v1).length : Int))) ((([] : List T31) ++ v1).length : Int))) ≤ v1.length := by have := hg.2; omega
        refine AAny.extFzL (s := 50) rfl (sub_len v1 0 (Int.toNat (Int.tmod (w64 ((Int.tmod v3 ((([] : List T31) ++ v1).length : Int)) + ((([] : List T31) ++ v1).length : Int))) ((([] : List T31) ++ v1).length : Int))) hb) (sub_at c31 v1 0 (Int.toNat (Int.tmod (w64 ((Int.tmod v3 ((([] : List T31) ++ v1).length : Int)) + ((([] : List T31) ++ v1).length : Int))) ((([] : List T31) ++ v1).length : Int))) hb) ?_
        refine AAny.step (i := 0) (fuel' := 3) rfl (by kernel_rfl) [] #[true, true, true, true, false, true, true, true, false, false] rfl [0, 1, 2, 8, 43, 46, 50] 0 ⟨[(0, .tv (fzL 2 c31 v1)), (1, .tv (fzL 3 c48 v2)), (2, .tv (.int .i64 v3)), (8, .tv (.int .i64 ((([] : List T31) ++ v1).length : Int))), (43, .tv (.own 2 32 0 (newRowF [] 2))), (46, .tv (fzL 2 c31 ((v1.take (Int.toNat (v1.length : Int))).drop (Int.toNat (Int.tmod (w64 ((Int.tmod v3 ((([] : List T31) ++ v1).length : Int)) + ((([] : List T31) ++ v1).length : Int))) ((([] : List T31) ++ v1).length : Int)))))), (50, .tv (fzL 2 c31 ((v1.take (Int.toNat (Int.tmod (w64 ((Int.tmod v3 ((([] : List T31) ++ v1).length : Int)) + ((([] : List T31) ++ v1).length : Int))) ((([] : List T31) ++ v1).length : Int)))).drop 0)))], []⟩ ?_ (Nat.zero_le _) trivial ?_
        · kernel_rfl
        refine AAny.extL 43 c31 ([] : List T31) rfl rfl (row_at c31 2 (fun _ => rfl) ([] : List T31) _ rfl) ?_
        obtain ⟨hg, h⟩ := of_guard h
        refine AAny.step (i := 4) (fuel' := 2) rfl (by kernel_rfl) [(([] : List T31).length + ((v1.take (Int.toNat (v1.length : Int))).drop (Int.toNat (Int.tmod (w64 ((Int.tmod v3 ((([] : List T31) ++ v1).length : Int)) + ((([] : List T31) ++ v1).length : Int))) ((([] : List T31) ++ v1).length : Int)))).length) * 40 ≤ 140737488355328, PlainTo (([] : List T31).length) (fun i => c31 (([] : List T31).getD i default)), PlainTo (((v1.take (Int.toNat (v1.length : Int))).drop (Int.toNat (Int.tmod (w64 ((Int.tmod v3 ((([] : List T31) ++ v1).length : Int)) + ((([] : List T31) ++ v1).length : Int))) ((([] : List T31) ++ v1).length : Int)))).length) (fun i => c31 (((v1.take (Int.toNat (v1.length : Int))).drop (Int.toNat (Int.tmod (w64 ((Int.tmod v3 ((([] : List T31) ++ v1).length : Int)) + ((([] : List T31) ++ v1).length : Int))) ((([] : List T31) ++ v1).length : Int)))).getD i default))] #[true, true, true, true, true, true, true, true, false, false] rfl [0, 1, 2, 8, 47, 50] 0 ⟨[(0, .tv (fzL 2 c31 v1)), (1, .tv (fzL 3 c48 v2)), (2, .tv (.int .i64 v3)), (8, .tv (.int .i64 ((([] : List T31) ++ v1).length : Int))), (47, .tv (.own 2 32 (([] : List T31).length + ((v1.take (Int.toNat (v1.length : Int))).drop (Int.toNat (Int.tmod (w64 ((Int.tmod v3 ((([] : List T31) ++ v1).length : Int)) + ((([] : List T31) ++ v1).length : Int))) ((([] : List T31) ++ v1).length : Int)))).length) (appF (([] : List T31).length) (fun i => c31 (([] : List T31).getD i default)) (fun i => c31 (((v1.take (Int.toNat (v1.length : Int))).drop (Int.toNat (Int.tmod (w64 ((Int.tmod v3 ((([] : List T31) ++ v1).length : Int)) + ((([] : List T31) ++ v1).length : Int))) ((([] : List T31) ++ v1).length : Int)))).getD i default))))), (50, .tv (fzL 2 c31 ((v1.take (Int.toNat (Int.tmod (w64 ((Int.tmod v3 ((([] : List T31) ++ v1).length : Int)) + ((([] : List T31) ++ v1).length : Int))) ((([] : List T31) ++ v1).length : Int)))).drop 0)))], []⟩ ?_ (Nat.zero_le _) ⟨hg, (fun _ _ => rfl), (fun _ _ => rfl)⟩ ?_
        · kernel_rfl
        refine AAny.extL 47 c31 (([] : List T31) ++ ((v1.take (Int.toNat (v1.length : Int))).drop (Int.toNat (Int.tmod (w64 ((Int.tmod v3 ((([] : List T31) ++ v1).length : Int)) + ((([] : List T31) ++ v1).length : Int))) ((([] : List T31) ++ v1).length : Int))))) rfl (by simp) (app_at c31 ([] : List T31) ((v1.take (Int.toNat (v1.length : Int))).drop (Int.toNat (Int.tmod (w64 ((Int.tmod v3 ((([] : List T31) ++ v1).length : Int)) + ((([] : List T31) ++ v1).length : Int))) ((([] : List T31) ++ v1).length : Int))))) ?_
        obtain ⟨hg, h⟩ := of_guard h
        refine AAny.step (i := 8) (fuel' := 1) rfl (by kernel_rfl) [((([] : List T31) ++ ((v1.take (Int.toNat (v1.length : Int))).drop (Int.toNat (Int.tmod (w64 ((Int.tmod v3 ((([] : List T31) ++ v1).length : Int)) + ((([] : List T31) ++ v1).length : Int))) ((([] : List T31) ++ v1).length : Int))))).length + ((v1.take (Int.toNat (Int.tmod (w64 ((Int.tmod v3 ((([] : List T31) ++ v1).length : Int)) + ((([] : List T31) ++ v1).length : Int))) ((([] : List T31) ++ v1).length : Int)))).drop 0).length) * 40 ≤ 140737488355328, PlainTo ((([] : List T31) ++ ((v1.take (Int.toNat (v1.length : Int))).drop (Int.toNat (Int.tmod (w64 ((Int.tmod v3 ((([] : List T31) ++ v1).length : Int)) + ((([] : List T31) ++ v1).length : Int))) ((([] : List T31) ++ v1).length : Int))))).length) (fun i => c31 ((([] : List T31) ++ ((v1.take (Int.toNat (v1.length : Int))).drop (Int.toNat (Int.tmod (w64 ((Int.tmod v3 ((([] : List T31) ++ v1).length : Int)) + ((([] : List T31) ++ v1).length : Int))) ((([] : List T31) ++ v1).length : Int))))).getD i default)), PlainTo (((v1.take (Int.toNat (Int.tmod (w64 ((Int.tmod v3 ((([] : List T31) ++ v1).length : Int)) + ((([] : List T31) ++ v1).length : Int))) ((([] : List T31) ++ v1).length : Int)))).drop 0).length) (fun i => c31 (((v1.take (Int.toNat (Int.tmod (w64 ((Int.tmod v3 ((([] : List T31) ++ v1).length : Int)) + ((([] : List T31) ++ v1).length : Int))) ((([] : List T31) ++ v1).length : Int)))).drop 0).getD i default))] #[true, true, true, true, true, true, true, true, true, false] rfl [0, 1, 2, 8, 51] 0 ⟨[(0, .tv (fzL 2 c31 v1)), (1, .tv (fzL 3 c48 v2)), (2, .tv (.int .i64 v3)), (8, .tv (.int .i64 ((([] : List T31) ++ v1).length : Int))), (51, .tv (.own 2 32 ((([] : List T31) ++ ((v1.take (Int.toNat (v1.length : Int))).drop (Int.toNat (Int.tmod (w64 ((Int.tmod v3 ((([] : List T31) ++ v1).length : Int)) + ((([] : List T31) ++ v1).length : Int))) ((([] : List T31) ++ v1).length : Int))))).length + ((v1.take (Int.toNat (Int.tmod (w64 ((Int.tmod v3 ((([] : List T31) ++ v1).length : Int)) + ((([] : List T31) ++ v1).length : Int))) ((([] : List T31) ++ v1).length : Int)))).drop 0).length) (appF ((([] : List T31) ++ ((v1.take (Int.toNat (v1.length : Int))).drop (Int.toNat (Int.tmod (w64 ((Int.tmod v3 ((([] : List T31) ++ v1).length : Int)) + ((([] : List T31) ++ v1).length : Int))) ((([] : List T31) ++ v1).length : Int))))).length) (fun i => c31 ((([] : List T31) ++ ((v1.take (Int.toNat (v1.length : Int))).drop (Int.toNat (Int.tmod (w64 ((Int.tmod v3 ((([] : List T31) ++ v1).length : Int)) + ((([] : List T31) ++ v1).length : Int))) ((([] : List T31) ++ v1).length : Int))))).getD i default)) (fun i => c31 (((v1.take (Int.toNat (Int.tmod (w64 ((Int.tmod v3 ((([] : List T31) ++ v1).length : Int)) + ((([] : List T31) ++ v1).length : Int))) ((([] : List T31) ++ v1).length : Int)))).drop 0).getD i default)))))], []⟩ ?_ (Nat.zero_le _) ⟨hg, (fun _ _ => rfl), (fun _ _ => rfl)⟩ ?_
        · kernel_rfl
        refine AAny.extL 51 c31 ((([] : List T31) ++ ((v1.take (Int.toNat (v1.length : Int))).drop (Int.toNat (Int.tmod (w64 ((Int.tmod v3 ((([] : List T31) ++ v1).length : Int)) + ((([] : List T31) ++ v1).length : Int))) ((([] : List T31) ++ v1).length : Int))))) ++ ((v1.take (Int.toNat (Int.tmod (w64 ((Int.tmod v3 ((([] : List T31) ++ v1).length : Int)) + ((([] : List T31) ++ v1).length : Int))) ((([] : List T31) ++ v1).length : Int)))).drop 0)) rfl (by simp) (app_at c31 (([] : List T31) ++ ((v1.take (Int.toNat (v1.length : Int))).drop (Int.toNat (Int.tmod (w64 ((Int.tmod v3 ((([] : List T31) ++ v1).length : Int)) + ((([] : List T31) ++ v1).length : Int))) ((([] : List T31) ++ v1).length : Int))))) ((v1.take (Int.toNat (Int.tmod (w64 ((Int.tmod v3 ((([] : List T31) ++ v1).length : Int)) + ((([] : List T31) ++ v1).length : Int))) ((([] : List T31) ++ v1).length : Int)))).drop 0)) ?_
        refine AAny.step (i := 9) (fuel' := 0) rfl (by kernel_rfl) [] #[true, true, true, true, true, true, true, true, true, true] rfl [0, 1, 2, 7, 8] 0 ⟨[(0, .tv (fzL 2 c31 v1)), (1, .tv (fzL 3 c48 v2)), (2, .tv (.int .i64 v3)), (7, .tv (ownL 2 32 c31 ((([] : List T31) ++ ((v1.take (Int.toNat (v1.length : Int))).drop (Int.toNat (Int.tmod (w64 ((Int.tmod v3 ((([] : List T31) ++ v1).length : Int)) + ((([] : List T31) ++ v1).length : Int))) ((([] : List T31) ++ v1).length : Int))))) ++ ((v1.take (Int.toNat (Int.tmod (w64 ((Int.tmod v3 ((([] : List T31) ++ v1).length : Int)) + ((([] : List T31) ++ v1).length : Int))) ((([] : List T31) ++ v1).length : Int)))).drop 0)))), (8, .tv (.int .i64 ((([] : List T31) ++ v1).length : Int)))], []⟩ ?_ (Nat.zero_le _) trivial ?_
        · kernel_rfl
        refine AAny.keepTo [0, 1, 2, 7, 8] 0 ⟨[(0, .tv (fzL 2 c31 v1)), (1, .tv (fzL 3 c48 v2)), (2, .tv (.int .i64 v3)), (7, .tv (ownL 2 32 c31 ((([] : List T31) ++ ((v1.take (Int.toNat (v1.length : Int))).drop (Int.toNat (Int.tmod (w64 ((Int.tmod v3 ((([] : List T31) ++ v1).length : Int)) + ((([] : List T31) ++ v1).length : Int))) ((([] : List T31) ++ v1).length : Int))))) ++ ((v1.take (Int.toNat (Int.tmod (w64 ((Int.tmod v3 ((([] : List T31) ++ v1).length : Int)) + ((([] : List T31) ++ v1).length : Int))) ((([] : List T31) ++ v1).length : Int)))).drop 0)))), (8, .tv (.int .i64 ((([] : List T31) ++ v1).length : Int)))], []⟩ _ ?_ rfl (Nat.zero_le _) (AAny.done (by kernel_rfl) ?_)
        · kernel_rfl
        refine AWp.seq ?_
        refine AWp.start [0] [] [] [0, 1, 2, 7, 8, 10] 0 ⟨[(0, .tv (fzL 2 c31 v1)), (1, .tv (fzL 3 c48 v2)), (2, .tv (.int .i64 v3)), (7, .tv (ownL 2 32 c31 ((([] : List T31) ++ ((v1.take (Int.toNat (v1.length : Int))).drop (Int.toNat (Int.tmod (w64 ((Int.tmod v3 ((([] : List T31) ++ v1).length : Int)) + ((([] : List T31) ++ v1).length : Int))) ((([] : List T31) ++ v1).length : Int))))) ++ ((v1.take (Int.toNat (Int.tmod (w64 ((Int.tmod v3 ((([] : List T31) ++ v1).length : Int)) + ((([] : List T31) ++ v1).length : Int))) ((([] : List T31) ++ v1).length : Int)))).drop 0)))), (8, .tv (.int .i64 ((([] : List T31) ++ v1).length : Int))), (10, .tv (.int .i64 (0 : Int)))], []⟩ rfl ?_ (Nat.zero_le _) trivial ?_
        · kernel_rfl
        refine AOps.nil ?_
        refine AWp.block ?_
        obtain ⟨y, hy, h⟩ := of_bind h
        refine AWp.mono (AWp.loop (S := (List T31) × Int) (Y := Out Bool (List T31)) (fun s => ⟨[(0, .tv (fzL 2 c31 v1)), (1, .tv (fzL 3 c48 v2)), (2, .tv (.int .i64 v3)), (7, .tv (ownL 2 32 c31 s.1)), (8, .tv (.int .i64 ((([] : List T31) ++ v1).length : Int))), (10, .tv (.int .i64 s.2))], []⟩) (fun s => f6_b2 v1 v3 s.1 s.2) (fun y e σ => match y with | .ret r => e = .ret ∧ σ = ⟨[(6, .tv (.bool r))], []⟩ | .go v => e = .exit 0 ∧ σ = ⟨[(0, .tv (fzL 2 c31 v1)), (1, .tv (fzL 3 c48 v2)), (7, .tv (ownL 2 32 c31 v))], []⟩) ?_ hy) ?_
        · rintro ⟨v15, v16⟩ o h
          refine AWp.seq ?_
          refine AWp.seq ?_
          refine AWp.start [0, 1, 2, 3] [4, 5, 6, 7, 8] [(2 : Int) ≠ (0 : Int)] [0, 1, 2, 7, 8, 10, 55] 0 ⟨[(0, .tv (fzL 2 c31 v1)), (1, .tv (fzL 3 c48 v2)), (2, .tv (.int .i64 v3)), (7, .tv (ownL 2 32 c31 v15)), (8, .tv (.int .i64 ((([] : List T31) ++ v1).length : Int))), (10, .tv (.int .i64 v16)), (55, .tv (.bool (Int.tmod v3 (2 : Int) != (0 : Int))))], []⟩ rfl ?_ (Nat.zero_le _) (by decide : (2 : Int) ≠ (0 : Int)) ?_
          · kernel_rfl
          obtain ⟨v18, hc4, h⟩ := of_bind h
          refine AOps.cut [4, 5, 6, 7, 8] [] (fun σ => σ = ⟨[(0, .tv (fzL 2 c31 v1)), (1, .tv (fzL 3 c48 v2)), (2, .tv (.int .i64 v3)), (7, .tv (ownL 2 32 c31 v15)), (8, .tv (.int .i64 ((([] : List T31) ++ v1).length : Int))), (10, .tv (.int .i64 v16)), (60, .tv (.bool v18))], []⟩) ?_ fun σ' hJ => ?_
          · refine AOps.split (fun b => ⟨[(0, .tv (fzL 2 c31 v1)), (1, .tv (fzL 3 c48 v2)), (2, .tv (.int .i64 v3)), (7, .tv (ownL 2 32 c31 v15)), (8, .tv (.int .i64 ((([] : List T31) ++ v1).length : Int))), (10, .tv (.int .i64 v16)), (55, .tv (.bool b))], []⟩) _ (fun hb => ?_) fun hb => ?_
            · replace hc4 := of_true hc4 hb
              refine AOps.go [4, 5, 6, 7, 8] [] [(2 : Int) ≠ (0 : Int)] [0, 1, 2, 7, 8, 10, 60] 0 ⟨[(0, .tv (fzL 2 c31 v1)), (1, .tv (fzL 3 c48 v2)), (2, .tv (.int .i64 v3)), (7, .tv (ownL 2 32 c31 v15)), (8, .tv (.int .i64 ((([] : List T31) ++ v1).length : Int))), (10, .tv (.int .i64 v16)), (60, .tv (.bool (decide (v16 < w64 (Int.tdiv ((([] : List T31) ++ v1).length : Int) (2 : Int))))))], []⟩ ?_ (Nat.zero_le _) (by decide : (2 : Int) ≠ (0 : Int)) ?_
              · kernel_rfl
              cases hc4
              exact AOps.nil rfl
            · replace hc4 := of_false hc4 hb
              refine AOps.go [4, 5, 6, 7, 8] [] [] [0, 1, 2, 7, 8, 10, 60] 0 ⟨[(0, .tv (fzL 2 c31 v1)), (1, .tv (fzL 3 c48 v2)), (2, .tv (.int .i64 v3)), (7, .tv (ownL 2 32 c31 v15)), (8, .tv (.int .i64 ((([] : List T31) ++ v1).length : Int))), (10, .tv (.int .i64 v16)), (60, .tv (.bool false))], []⟩ ?_ (Nat.zero_le _) trivial ?_
              · kernel_rfl
              cases hc4
              exact AOps.nil rfl
          subst hJ
          refine AOps.nil ?_
          refine AWp.cond rfl (fun hb => ?_) fun hb => ?_
          · replace h := of_true h hb
            refine AWp.keepTo [0, 1, 2, 7, 8, 10] 0 ⟨[(0, .tv (fzL 2 c31 v1)), (1, .tv (fzL 3 c48 v2)), (2, .tv (.int .i64 v3)), (7, .tv (ownL 2 32 c31 v15)), (8, .tv (.int .i64 ((([] : List T31) ++ v1).length : Int))), (10, .tv (.int .i64 v16))], []⟩ ?_ (Nat.zero_le _) ?_
            · kernel_rfl
            refine AWp.skip ?_
            refine AWp.seq ?_
            refine AWp.block ?_
            refine AWp.draw FFm _ (n := 22) rfl (ls := #[false, false, false, false, false, false, false, false, false, false, false, false, false, false, false, false, false, false, false, false, false, false]) rfl ?_ (fun _ h => h)
            obtain ⟨hg, h⟩ := of_guard h
            refine AAny.go (by kernel_rfl) [0, 1, 2, 3, 4, 5, 6, 7, 8, 9, 10, 11, 12, 14, 15, 16] (fuel' := 6) rfl [(0 : Int) ≤ w64 ((w64 (((([] : List T31) ++ v1).length : Int) - (1 : Int))) - v16), w64 ((w64 (((([] : List T31) ++ v1).length : Int) - (1 : Int))) - v16) < (v15.length : Int), (0 : Int) ≤ v16, v16 < (v15.length : Int)] #[true, true, true, true, true, true, true, true, true, true, true, true, true, false, true, true, true, false, false, false, false, false] [0, 1, 2, 7, 8, 10, 63, 64, 65, 69, 75, 79] 0 ⟨[(0, .tv (fzL 2 c31 v1)), (1, .tv (fzL 3 c48 v2)), (2, .tv (.int .i64 v3)), (7, .tv (ownL 2 32 c31 v15)), (8, .tv (.int .i64 ((([] : List T31) ++ v1).length : Int))), (10, .tv (.int .i64 v16)), (63, .al (.slot 7 0, [])), (64, .tv (.int .i64 v16)), (65, .al (.slot 7 0, [])), (69, .tv (.int .i64 (w64 ((w64 (((([] : List T31) ++ v1).length : Int) - (1 : Int))) - v16)))), (75, .pe (.slot 7 0, []) (Int.toNat (w64 ((w64 (((([] : List T31) ++ v1).length : Int) - (1 : Int))) - v16))) 0 2), (79, .pe (.slot 7 0, []) v16.toNat 0 2)], []⟩ ?_ (Nat.zero_le _) ⟨hg.1, hg.2.1, hg.2.2.1, hg.2.2.2⟩ ?_
            · kernel_rfl
            refine AAny.goR (by kernel_rfl) (i := 13) (fuel' := 5) rfl (by kernel_rfl) (by kernel_rfl) [] #[true, true, true, true, true, true, true, true, true, true, true, true, true, true, true, true, true, false, false, false, false, false] rfl [0, 1, 2, 7, 8, 10, 63, 64, 65, 69, 76, 79] 0 ⟨[(0, .tv (fzL 2 c31 v1)), (1, .tv (fzL 3 c48 v2)), (2, .tv (.int .i64 v3)), (7, .tv (ownL 2 32 c31 v15)), (8, .tv (.int .i64 ((([] : List T31) ++ v1).length : Int))), (10, .tv (.int .i64 v16)), (63, .al (.slot 7 0, [])), (64, .tv (.int .i64 v16)), (65, .al (.slot 7 0, [])), (69, .tv (.int .i64 (w64 ((w64 (((([] : List T31) ++ v1).length : Int) - (1 : Int))) - v16)))), (76, .agg [.str ((v15.getD (Int.toNat (w64 ((w64 (((([] : List T31) ++ v1).length : Int) - (1 : Int))) - v16))) default).f0), fzL 3 c48 ((v15.getD (Int.toNat (w64 ((w64 (((([] : List T31) ++ v1).length : Int) - (1 : Int))) - v16))) default).f1)]), (79, .pe (.slot 7 0, []) v16.toNat 0 2)], []⟩ ?_ (Nat.zero_le _) trivial ?_
            · kernel_rfl
            refine AAny.step (i := 17) (fuel' := 4) rfl (by kernel_rfl) [] #[true, true, true, true, true, true, true, true, true, true, true, true, true, true, true, true, true, true, false, false, false, false] rfl [0, 1, 2, 7, 8, 10, 63, 64, 65, 69, 76, 80] 0 ⟨[(0, .tv (fzL 2 c31 v1)), (1, .tv (fzL 3 c48 v2)), (2, .tv (.int .i64 v3)), (7, .tv (ownL 2 32 c31 v15)), (8, .tv (.int .i64 ((([] : List T31) ++ v1).length : Int))), (10, .tv (.int .i64 v16)), (63, .al (.slot 7 0, [])), (64, .tv (.int .i64 v16)), (65, .al (.slot 7 0, [])), (69, .tv (.int .i64 (w64 ((w64 (((([] : List T31) ++ v1).length : Int) - (1 : Int))) - v16)))), (76, .agg [.str ((v15.getD (Int.toNat (w64 ((w64 (((([] : List T31) ++ v1).length : Int) - (1 : Int))) - v16))) default).f0), fzL 3 c48 ((v15.getD (Int.toNat (w64 ((w64 (((([] : List T31) ++ v1).length : Int) - (1 : Int))) - v16))) default).f1)]), (80, .agg [.str ((v15.getD v16.toNat default).f0), fzL 3 c48 ((v15.getD v16.toNat default).f1)])], []⟩ ?_ (Nat.zero_le _) trivial ?_
            · kernel_rfl
            obtain ⟨hg, h⟩ := of_guard h
            refine AAny.go (by kernel_rfl) [18] (fuel' := 3) rfl [(0 : Int) ≤ v16, v16 < (v15.length : Int)] #[true, true, true, true, true, true, true, true, true, true, true, true, true, true, true, true, true, true, true, false, false, false] [0, 1, 2, 7, 8, 10, 65, 69, 76, 80, 81] 0 ⟨[(0, .tv (fzL 2 c31 v1)), (1, .tv (fzL 3 c48 v2)), (2, .tv (.int .i64 v3)), (7, .tv (ownL 2 32 c31 v15)), (8, .tv (.int .i64 ((([] : List T31) ++ v1).length : Int))), (10, .tv (.int .i64 v16)), (65, .al (.slot 7 0, [])), (69, .tv (.int .i64 (w64 ((w64 (((([] : List T31) ++ v1).length : Int) - (1 : Int))) - v16)))), (76, .agg [.str ((v15.getD (Int.toNat (w64 ((w64 (((([] : List T31) ++ v1).length : Int) - (1 : Int))) - v16))) default).f0), fzL 3 c48 ((v15.getD (Int.toNat (w64 ((w64 (((([] : List T31) ++ v1).length : Int) - (1 : Int))) - v16))) default).f1)]), (80, .agg [.str ((v15.getD v16.toNat default).f0), fzL 3 c48 ((v15.getD v16.toNat default).f1)]), (81, .pe (.slot 7 0, []) v16.toNat 0 2)], []⟩ ?_ (Nat.zero_le _) ⟨hg.1, hg.2⟩ ?_
            · kernel_rfl
            refine AAny.step (i := 19) (fuel' := 2) rfl (by kernel_rfl) [PlainTo v15.length (fun i => c31 (v15.getD i default))] #[true, true, true, true, true, true, true, true, true, true, true, true, true, true, true, true, true, true, true, true, false, false] rfl [0, 1, 2, 7, 8, 10, 65, 69, 80] 0 ⟨[(0, .tv (fzL 2 c31 v1)), (1, .tv (fzL 3 c48 v2)), (2, .tv (.int .i64 v3)), (7, .tv (.own 2 32 v15.length (setElem (fun i => c31 (v15.getD i default)) v16.toNat (putAt (c31 (v15.getD v16.toNat default)) 0 [.str ((v15.getD (Int.toNat (w64 ((w64 (((([] : List T31) ++ v1).length : Int) - (1 : Int))) - v16))) default).f0), fzL 3 c48 ((v15.getD (Int.toNat (w64 ((w64 (((([] : List T31) ++ v1).length : Int) - (1 : Int))) - v16))) default).f1)])))), (8, .tv (.int .i64 ((([] : List T31) ++ v1).length : Int))), (10, .tv (.int .i64 v16)), (65, .al (.slot 7 0, [])), (69, .tv (.int .i64 (w64 ((w64 (((([] : List T31) ++ v1).length : Int) - (1 : Int))) - v16)))), (80, .agg [.str ((v15.getD v16.toNat default).f0), fzL 3 c48 ((v15.getD v16.toNat default).f1)])], []⟩ ?_ (Nat.zero_le _) (fun _ _ => rfl) ?_
            · kernel_rfl
            refine AAny.extL 7 c31 (v15.set v16.toNat (v15.getD (Int.toNat (w64 ((w64 (((([] : List T31) ++ v1).length : Int) - (1 : Int))) - v16))) default)) rfl (by simp) (set_at c31 v15 v16.toNat 0 [.str ((v15.getD (Int.toNat (w64 ((w64 (((([] : List T31) ++ v1).length : Int) - (1 : Int))) - v16))) default).f0), fzL 3 c48 ((v15.getD (Int.toNat (w64 ((w64 (((([] : List T31) ++ v1).length : Int) - (1 : Int))) - v16))) default).f1)] (v15.getD (Int.toNat (w64 ((w64 (((([] : List T31) ++ v1).length : Int) - (1 : Int))) - v16))) default) rfl) ?_
            obtain ⟨hg, h⟩ := of_guard h
            refine AAny.go (by kernel_rfl) [20] (fuel' := 1) rfl [(0 : Int) ≤ w64 ((w64 (((([] : List T31) ++ v1).length : Int) - (1 : Int))) - v16), w64 ((w64 (((([] : List T31) ++ v1).length : Int) - (1 : Int))) - v16) < ((v15.set v16.toNat (v15.getD (Int.toNat (w64 ((w64 (((([] : List T31) ++ v1).length : Int) - (1 : Int))) - v16))) default)).length : Int)] #[true, true, true, true, true, true, true, true, true, true, true, true, true, true, true, true, true, true, true, true, true, false] [0, 1, 2, 7, 8, 10, 80, 82] 0 ⟨[(0, .tv (fzL 2 c31 v1)), (1, .tv (fzL 3 c48 v2)), (2, .tv (.int .i64 v3)), (7, .tv (ownL 2 32 c31 (v15.set v16.toNat (v15.getD (Int.toNat (w64 ((w64 (((([] : List T31) ++ v1).length : Int) - (1 : Int))) - v16))) default)))), (8, .tv (.int .i64 ((([] : List T31) ++ v1).length : Int))), (10, .tv (.int .i64 v16)), (80, .agg [.str ((v15.getD v16.toNat default).f0), fzL 3 c48 ((v15.getD v16.toNat default).f1)]), (82, .pe (.slot 7 0, []) (Int.toNat (w64 ((w64 (((([] : List T31) ++ v1).length : Int) - (1 : Int))) - v16))) 0 2)], []⟩ ?_ (Nat.zero_le _) ⟨hg.1, hg.2⟩ ?_
            · kernel_rfl
            refine AAny.step (i := 21) (fuel' := 0) rfl (by kernel_rfl) [PlainTo ((v15.set v16.toNat (v15.getD (Int.toNat (w64 ((w64 (((([] : List T31) ++ v1).length : Int) - (1 : Int))) - v16))) default)).length) (fun i => c31 ((v15.set v16.toNat (v15.getD (Int.toNat (w64 ((w64 (((([] : List T31) ++ v1).length : Int) - (1 : Int))) - v16))) default)).getD i default))] #[true, true, true, true, true, true, true, true, true, true, true, true, true, true, true, true, true, true, true, true, true, true] rfl [0, 1, 2, 7, 8, 10] 0 ⟨[(0, .tv (fzL 2 c31 v1)), (1, .tv (fzL 3 c48 v2)), (2, .tv (.int .i64 v3)), (7, .tv (.own 2 32 ((v15.set v16.toNat (v15.getD (Int.toNat (w64 ((w64 (((([] : List T31) ++ v1).length : Int) - (1 : Int))) - v16))) default)).length) (setElem (fun i => c31 ((v15.set v16.toNat (v15.getD (Int.toNat (w64 ((w64 (((([] : List T31) ++ v1).length : Int) - (1 : Int))) - v16))) default)).getD i default)) (Int.toNat (w64 ((w64 (((([] : List T31) ++ v1).length : Int) - (1 : Int))) - v16))) (putAt (c31 ((v15.set v16.toNat (v15.getD (Int.toNat (w64 ((w64 (((([] : List T31) ++ v1).length : Int) - (1 : Int))) - v16))) default)).getD (Int.toNat (w64 ((w64 (((([] : List T31) ++ v1).length : Int) - (1 : Int))) - v16))) default)) 0 [.str ((v15.getD v16.toNat default).f0), fzL 3 c48 ((v15.getD v16.toNat default).f1)])))), (8, .tv (.int .i64 ((([] : List T31) ++ v1).length : Int))), (10, .tv (.int .i64 v16))], []⟩ ?_ (Nat.zero_le _) (fun _ _ => rfl) ?_
            · kernel_rfl
            refine AAny.extL 7 c31 ((v15.set v16.toNat (v15.getD (Int.toNat (w64 ((w64 (((([] : List T31) ++ v1).length : Int) - (1 : Int))) - v16))) default)).set (Int.toNat (w64 ((w64 (((([] : List T31) ++ v1).length : Int) - (1 : Int))) - v16))) (v15.getD v16.toNat default)) rfl (by simp) (set_at c31 (v15.set v16.toNat (v15.getD (Int.toNat (w64 ((w64 (((([] : List T31) ++ v1).length : Int) - (1 : Int))) - v16))) default)) (Int.toNat (w64 ((w64 (((([] : List T31) ++ v1).length : Int) - (1 : Int))) - v16))) 0 [.str ((v15.getD v16.toNat default).f0), fzL 3 c48 ((v15.getD v16.toNat default).f1)] (v15.getD v16.toNat default) rfl) ?_
            refine AAny.keepTo [0, 1, 2, 7, 8, 10] 0 ⟨[(0, .tv (fzL 2 c31 v1)), (1, .tv (fzL 3 c48 v2)), (2, .tv (.int .i64 v3)), (7, .tv (ownL 2 32 c31 ((v15.set v16.toNat (v15.getD (Int.toNat (w64 ((w64 (((([] : List T31) ++ v1).length : Int) - (1 : Int))) - v16))) default)).set (Int.toNat (w64 ((w64 (((([] : List T31) ++ v1).length : Int) - (1 : Int))) - v16))) (v15.getD v16.toNat default)))), (8, .tv (.int .i64 ((([] : List T31) ++ v1).length : Int))), (10, .tv (.int .i64 v16))], []⟩ _ ?_ rfl (Nat.zero_le _) (AAny.done (by kernel_rfl) ?_)
            · kernel_rfl
            refine AWp.start [0, 1, 2] [] [] [0, 1, 2, 7, 8, 10] 0 ⟨[(0, .tv (fzL 2 c31 v1)), (1, .tv (fzL 3 c48 v2)), (2, .tv (.int .i64 v3)), (7, .tv (ownL 2 32 c31 ((v15.set v16.toNat (v15.getD (Int.toNat (w64 ((w64 (((([] : List T31) ++ v1).length : Int) - (1 : Int))) - v16))) default)).set (Int.toNat (w64 ((w64 (((([] : List T31) ++ v1).length : Int) - (1 : Int))) - v16))) (v15.getD v16.toNat default)))), (8, .tv (.int .i64 ((([] : List T31) ++ v1).length : Int))), (10, .tv (.int .i64 (w64 (v16 + (1 : Int)))))], []⟩ rfl ?_ (Nat.zero_le _) trivial ?_
            · kernel_rfl
            refine AOps.nil ?_
            cases h
            exact Or.inl ⟨_, rfl, rfl, rfl⟩
          · replace h := of_false h hb
            refine AWp.keepTo [0, 1, 7] 0 ⟨[(0, .tv (fzL 2 c31 v1)), (1, .tv (fzL 3 c48 v2)), (7, .tv (ownL 2 32 c31 v15))], []⟩ ?_ (Nat.zero_le _) ?_
            · kernel_rfl
            refine AWp.exit ?_
            cases h
            exact Or.inr ⟨_, rfl, by simp, rfl, rfl⟩
        · intro e σ hp
          rcases y with v19 | v17
          · obtain ⟨rfl, rfl⟩ := hp
            cases h
            exact ⟨.inr rfl, rfl⟩
          · obtain ⟨rfl, rfl⟩ := hp
            exact ⟨v17, h, rfl⟩
      · replace h := of_false h hb
        refine AWp.keepTo [0, 1, 7] 0 ⟨[(0, .tv (fzL 2 c31 v1)), (1, .tv (fzL 3 c48 v2)), (7, .tv (ownL 2 32 c31 (([] : List T31) ++ v1)))], []⟩ ?_ (Nat.zero_le _) ?_
        · kernel_rfl
        refine AWp.skip ?_
        exact ⟨([] : List T31) ++ v1, h, rfl⟩
    · rintro v7 h
      refine AWp.seq ?_
      refine AWp.start [0] [1, 2, 3, 4, 5, 6, 7, 8] [] [0, 1, 7, 84] 0 ⟨[(0, .tv (fzL 2 c31 v1)), (1, .tv (fzL 3 c48 v2)), (7, .tv (ownL 2 32 c31 v7)), (84, .tv (fzL 2 c31 v1))], []⟩ rfl ?_ (Nat.zero_le _) trivial ?_
      · kernel_rfl
      obtain ⟨v8, hv8, h⟩ := of_bind h
      refine AOps.cons (AOne.callP (F := (FF 135 0)) _ rfl rfl rfl _ rfl rfl _ _ rfl Try.call17 [.tv (fzL 2 c31 v1)] rfl rfl (f17_ok v1 hv8) rfl) ?_
      refine AOps.go [2, 3, 4, 5, 6, 7, 8] [] [] [0, 1, 7, 13] 0 ⟨[(0, .tv (fzL 2 c31 v1)), (1, .tv (fzL 3 c48 v2)), (7, .tv (ownL 2 32 c31 v7)), (13, .tv (.int .i64 v8.2.2))], []⟩ ?_ (Nat.zero_le _) trivial ?_
      · kernel_rfl
      refine AOps.nil ?_
      refine AWp.seq ?_
      refine AWp.start [0] [1, 2, 3, 4, 5, 6, 7, 8] [] [0, 1, 7, 13, 90] 0 ⟨[(0, .tv (fzL 2 c31 v1)), (1, .tv (fzL 3 c48 v2)), (7, .tv (ownL 2 32 c31 v7)), (13, .tv (.int .i64 v8.2.2)), (90, .al (.slot 7 0, []))], []⟩ rfl ?_ (Nat.zero_le _) trivial ?_
      · kernel_rfl
      obtain ⟨v9, hv9, h⟩ := of_bind h
      refine AOps.cons (AOne.callR (F := (FF 135 0)) _ rfl rfl rfl _ rfl rfl _ _ rfl Try.call17 [PlainTo v7.length (fun i => c31 (v7.getD i default))] [.tv (fzL 2 c31 v7)] rfl (fun _ _ => rfl) (f17_ok v7 hv9) (ind_of rfl) rfl) ?_
      refine AOps.go [2, 3, 4, 5, 6, 7, 8] [] [] [0, 1, 7, 13, 16] 0 ⟨[(0, .tv (fzL 2 c31 v1)), (1, .tv (fzL 3 c48 v2)), (7, .tv (ownL 2 32 c31 v7)), (13, .tv (.int .i64 v8.2.2)), (16, .tv (.int .i64 v9.2.2))], []⟩ ?_ (Nat.zero_le _) trivial ?_
      · kernel_rfl
      refine AOps.nil ?_
      refine AWp.seq ?_
      refine AWp.start [0, 1] [2, 3, 4, 5, 6, 7] [] [0, 1, 7, 13, 16, 96, 97] 0 ⟨[(0, .tv (fzL 2 c31 v1)), (1, .tv (fzL 3 c48 v2)), (7, .tv (ownL 2 32 c31 v7)), (13, .tv (.int .i64 v8.2.2)), (16, .tv (.int .i64 v9.2.2)), (96, .tv (fzL 2 c31 v1)), (97, .tv (fzL 3 c48 v2))], []⟩ rfl ?_ (Nat.zero_le _) trivial ?_
      · kernel_rfl
      obtain ⟨v10, hv10, h⟩ := of_bind h
      refine AOps.cons (AOne.callP (F := (FF 135 0)) _ rfl rfl rfl _ rfl rfl _ _ rfl Try.call12 [.tv (fzL 2 c31 v1), .tv (fzL 3 c48 v2)] rfl rfl (f12_ok v1 v2 hv10) rfl) ?_
      refine AOps.go [3, 4, 5, 6, 7] [] [] [0, 1, 7, 13, 16, 17, 18] 0 ⟨[(0, .tv (fzL 2 c31 v1)), (1, .tv (fzL 3 c48 v2)), (7, .tv (ownL 2 32 c31 v7)), (13, .tv (.int .i64 v8.2.2)), (16, .tv (.int .i64 v9.2.2)), (17, .tv (.int .i64 v10.1)), (18, .tv (.int .i64 v10.2))], []⟩ ?_ (Nat.zero_le _) trivial ?_
      · kernel_rfl
      refine AOps.nil ?_
      refine AWp.seq ?_
      refine AWp.start [0, 1] [2, 3, 4, 5, 6, 7] [] [0, 7, 13, 16, 17, 18, 102, 103] 0 ⟨[(0, .tv (fzL 2 c31 v1)), (7, .tv (ownL 2 32 c31 v7)), (13, .tv (.int .i64 v8.2.2)), (16, .tv (.int .i64 v9.2.2)), (17, .tv (.int .i64 v10.1)), (18, .tv (.int .i64 v10.2)), (102, .al (.slot 7 0, [])), (103, .tv (fzL 3 c48 v2))], []⟩ rfl ?_ (Nat.zero_le _) trivial ?_
      · kernel_rfl
      obtain ⟨v11, hv11, h⟩ := of_bind h
      refine AOps.cons (AOne.callR (F := (FF 135 0)) _ rfl rfl rfl _ rfl rfl _ _ rfl Try.call12 [PlainTo v7.length (fun i => c31 (v7.getD i default))] [.tv (fzL 2 c31 v7), .tv (fzL 3 c48 v2)] rfl (fun _ _ => rfl) (f12_ok v7 v2 hv11) (ind_of rfl) rfl) ?_
      refine AOps.go [3, 4, 5, 6, 7] [] [] [0, 7, 13, 16, 17, 18, 19, 20] 0 ⟨[(0, .tv (fzL 2 c31 v1)), (7, .tv (ownL 2 32 c31 v7)), (13, .tv (.int .i64 v8.2.2)), (16, .tv (.int .i64 v9.2.2)), (17, .tv (.int .i64 v10.1)), (18, .tv (.int .i64 v10.2)), (19, .tv (.int .i64 v11.1)), (20, .tv (.int .i64 v11.2))], []⟩ ?_ (Nat.zero_le _) trivial ?_
      · kernel_rfl
      refine AOps.nil ?_
      refine AWp.seq ?_
      obtain ⟨v12, hd, h⟩ := of_bind h
      refine AWp.draw FFm (fun σ => σ = ⟨[(6, .tv (.bool v12))], []⟩) (n := 29) rfl (ls := #[false, false, false, false, false, false, false, false, false, false, false, false, false, false, false, false, false, false, false, false, false, false, false, false, false, false, false, false, false]) rfl ?_ ?_
      · refine AAny.go (by kernel_rfl) [0, 1, 2, 3] (fuel' := 25) rfl [] #[true, true, true, true, false, false, false, false, false, false, false, false, false, false, false, false, false, false, false, false, false, false, false, false, false, false, false, false, false] [0, 7, 17, 18, 19, 20, 110] 0 ⟨[(0, .tv (fzL 2 c31 v1)), (7, .tv (ownL 2 32 c31 v7)), (17, .tv (.int .i64 v10.1)), (18, .tv (.int .i64 v10.2)), (19, .tv (.int .i64 v11.1)), (20, .tv (.int .i64 v11.2)), (110, .tv (.bool (v8.2.2 == v9.2.2)))], []⟩ ?_ (Nat.zero_le _) trivial ?_
        · kernel_rfl
        refine AAny.split (fun b => ⟨[(0, .tv (fzL 2 c31 v1)), (7, .tv (ownL 2 32 c31 v7)), (17, .tv (.int .i64 v10.1)), (18, .tv (.int .i64 v10.2)), (19, .tv (.int .i64 v11.1)), (20, .tv (.int .i64 v11.2)), (110, .tv (.bool b))], []⟩) _ (fun hb => ?_) fun hb => ?_
        · replace hd := of_true hd hb
          refine AAny.go (by kernel_rfl) [4, 5, 6, 7, 8] (fuel' := 20) rfl [] #[true, true, true, true, true, true, true, true, true, false, false, false, false, false, false, false, false, false, false, false, false, false, false, false, false, false, false, false, false] [0, 7, 17, 18, 19, 115] 0 ⟨[(0, .tv (fzL 2 c31 v1)), (7, .tv (ownL 2 32 c31 v7)), (17, .tv (.int .i64 v10.1)), (18, .tv (.int .i64 v10.2)), (19, .tv (.int .i64 v11.1)), (115, .tv (.bool (v10.2 == v11.2)))], []⟩ ?_ (Nat.zero_le _) trivial ?_
          · kernel_rfl
          refine AAny.split (fun b => ⟨[(0, .tv (fzL 2 c31 v1)), (7, .tv (ownL 2 32 c31 v7)), (17, .tv (.int .i64 v10.1)), (18, .tv (.int .i64 v10.2)), (19, .tv (.int .i64 v11.1)), (115, .tv (.bool b))], []⟩) _ (fun hb => ?_) fun hb => ?_
          · replace hd := of_true hd hb
            refine AAny.go (by kernel_rfl) [9, 10, 11] (fuel' := 17) rfl [] #[true, true, true, true, true, true, true, true, true, true, true, true, false, false, false, false, false, false, false, false, false, false, false, false, false, false, false, false, false] [0, 7, 17, 19, 115, 118] 0 ⟨[(0, .tv (fzL 2 c31 v1)), (7, .tv (ownL 2 32 c31 v7)), (17, .tv (.int .i64 v10.1)), (19, .tv (.int .i64 v11.1)), (115, .tv (.bool true)), (118, .tv (.bool (v10.2 != (0 : Int))))], []⟩ ?_ (Nat.zero_le _) trivial ?_
            · kernel_rfl
            refine AAny.split (fun b => ⟨[(0, .tv (fzL 2 c31 v1)), (7, .tv (ownL 2 32 c31 v7)), (17, .tv (.int .i64 v10.1)), (19, .tv (.int .i64 v11.1)), (115, .tv (.bool true)), (118, .tv (.bool b))], []⟩) _ (fun hb => ?_) fun hb => ?_
            · replace hd := of_true hd hb
              refine AAny.go (by kernel_rfl) [12, 13, 14, 15, 16, 17, 18, 19, 20, 21, 22, 23, 24, 25] (fuel' := 3) rfl [] #[true, true, true, true, true, true, true, true, true, true, true, true, true, true, true, true, true, true, true, true, true, true, true, true, true, true, false, false, false] [132] 0 ⟨[(132, .tv (.bool true))], []⟩ ?_ (Nat.zero_le _) trivial ?_
              · kernel_rfl
              obtain ⟨v13, hv13, hd⟩ := of_bind hd
              refine AAny.serial (i := 26) (fuel := 2) (by kernel_rfl) (AOne.callP (F := (FF 135 0)) _ rfl rfl rfl _ rfl rfl _ _ rfl Try.call11 [] rfl rfl (f11_ok  hv13) rfl) ?_
              refine AAny.keepTo [132, 133] 0 ⟨[(132, .tv (.bool true)), (133, .tv (.bool v13))], []⟩ #[true, true, true, true, true, true, true, true, true, true, true, true, true, true, true, true, true, true, true, true, true, true, true, true, true, true, true, false, false] ?_ rfl (Nat.zero_le _) ?_
              · kernel_rfl
              refine AAny.go (by kernel_rfl) [27, 28] (fuel' := 0) rfl [] #[true, true, true, true, true, true, true, true, true, true, true, true, true, true, true, true, true, true, true, true, true, true, true, true, true, true, true, true, true] [6] 0 ⟨[(6, .tv (.bool v13))], []⟩ ?_ (Nat.zero_le _) trivial ?_
              · kernel_rfl
              refine AAny.keepTo [6] 0 ⟨[(6, .tv (.bool v13))], []⟩ _ ?_ rfl (Nat.zero_le _) (AAny.done (by kernel_rfl) ?_)
              · kernel_rfl
              cases hd
              exact rfl
            · replace hd := of_false hd hb
              obtain ⟨hg, hd⟩ := of_guard hd
              refine AAny.go (by kernel_rfl) [12, 13, 14, 15, 16, 17, 18, 19, 20] (fuel' := 8) rfl [(0 : Int) ≤ v10.1, v10.1 < (v1.length : Int), (0 : Int) ≤ v11.1, v11.1 < (v7.length : Int)] #[true, true, true, true, true, true, true, true, true, true, true, true, true, true, true, true, true, true, true, true, true, false, false, false, false, false, false, false, false] [7, 115, 118, 123, 127] 0 ⟨[(7, .tv (ownL 2 32 c31 v7)), (115, .tv (.bool true)), (118, .tv (.bool false)), (123, .tv (.str ((v1.getD (Int.toNat v10.1) default).f0))), (127, .pe (.slot 7 0, []) (Int.toNat v11.1) 0 2)], []⟩ ?_ (Nat.zero_le _) ⟨hg.1, hg.2.1, hg.2.2.1, hg.2.2.2⟩ ?_
              · kernel_rfl
              refine AAny.step (i := 21) (fuel' := 7) rfl (by kernel_rfl) [] #[true, true, true, true, true, true, true, true, true, true, true, true, true, true, true, true, true, true, true, true, true, true, false, false, false, false, false, false, false] rfl [115, 118, 123, 128] 0 ⟨[(115, .tv (.bool true)), (118, .tv (.bool false)), (123, .tv (.str ((v1.getD (Int.toNat v10.1) default).f0))), (128, .tv (.str ((v7.getD (Int.toNat v11.1) default).f0)))], []⟩ ?_ (Nat.zero_le _) trivial ?_
              · kernel_rfl
              refine AAny.go (by kernel_rfl) [22, 23, 24, 25] (fuel' := 3) rfl [] #[true, true, true, true, true, true, true, true, true, true, true, true, true, true, true, true, true, true, true, true, true, true, true, true, true, true, false, false, false] [132] 0 ⟨[(132, .tv (.bool (((v1.getD (Int.toNat v10.1) default).f0) == ((v7.getD (Int.toNat v11.1) default).f0))))], []⟩ ?_ (Nat.zero_le _) trivial ?_
              · kernel_rfl
              refine AAny.split (fun b => ⟨[(132, .tv (.bool b))], []⟩) _ (fun hb => ?_) fun hb => ?_
              · replace hd := of_true hd hb
                obtain ⟨v14, hv14, hd⟩ := of_bind hd
                refine AAny.serial (i := 26) (fuel := 2) (by kernel_rfl) (AOne.callP (F := (FF 135 0)) _ rfl rfl rfl _ rfl rfl _ _ rfl Try.call11 [] rfl rfl (f11_ok  hv14) rfl) ?_
                refine AAny.keepTo [132, 133] 0 ⟨[(132, .tv (.bool true)), (133, .tv (.bool v14))], []⟩ #[true, true, true, true, true, true, true, true, true, true, true, true, true, true, true, true, true, true, true, true, true, true, true, true, true, true, true, false, false] ?_ rfl (Nat.zero_le _) ?_
                · kernel_rfl
                refine AAny.go (by kernel_rfl) [27, 28] (fuel' := 0) rfl [] #[true, true, true, true, true, true, true, true, true, true, true, true, true, true, true, true, true, true, true, true, true, true, true, true, true, true, true, true, true] [6] 0 ⟨[(6, .tv (.bool v14))], []⟩ ?_ (Nat.zero_le _) trivial ?_
                · kernel_rfl
                refine AAny.keepTo [6] 0 ⟨[(6, .tv (.bool v14))], []⟩ _ ?_ rfl (Nat.zero_le _) (AAny.done (by kernel_rfl) ?_)
                · kernel_rfl
                cases hd
                exact rfl
              · replace hd := of_false hd hb
                refine AAny.go (by kernel_rfl) [26, 27, 28] (fuel' := 0) rfl [] #[true, true, true, true, true, true, true, true, true, true, true, true, true, true, true, true, true, true, true, true, true, true, true, true, true, true, true, true, true] [6] 0 ⟨[(6, .tv (.bool false))], []⟩ ?_ (Nat.zero_le _) trivial ?_
                · kernel_rfl
                refine AAny.keepTo [6] 0 ⟨[(6, .tv (.bool false))], []⟩ _ ?_ rfl (Nat.zero_le _) (AAny.done (by kernel_rfl) ?_)
                · kernel_rfl
                cases hd
                exact rfl
          · replace hd := of_false hd hb
            refine AAny.go (by kernel_rfl) [9, 10, 11, 12, 13, 14, 15, 16, 17, 18, 19, 20, 21, 22, 23, 24, 25, 26, 27, 28] (fuel' := 0) rfl [] #[true, true, true, true, true, true, true, true, true, true, true, true, true, true, true, true, true, true, true, true, true, true, true, true, true, true, true, true, true] [6] 0 ⟨[(6, .tv (.bool false))], []⟩ ?_ (Nat.zero_le _) trivial ?_
            · kernel_rfl
            refine AAny.keepTo [6] 0 ⟨[(6, .tv (.bool false))], []⟩ _ ?_ rfl (Nat.zero_le _) (AAny.done (by kernel_rfl) ?_)
            · kernel_rfl
            cases hd
            exact rfl
        · replace hd := of_false hd hb
          refine AAny.go (by kernel_rfl) [4, 5, 6, 7, 8, 9, 10, 11, 12, 13, 14, 15, 16, 17, 18, 19, 20, 21, 22, 23, 24, 25, 26, 27, 28] (fuel' := 0) rfl [] #[true, true, true, true, true, true, true, true, true, true, true, true, true, true, true, true, true, true, true, true, true, true, true, true, true, true, true, true, true] [6] 0 ⟨[(6, .tv (.bool false))], []⟩ ?_ (Nat.zero_le _) trivial ?_
          · kernel_rfl
          refine AAny.keepTo [6] 0 ⟨[(6, .tv (.bool false))], []⟩ _ ?_ rfl (Nat.zero_le _) (AAny.done (by kernel_rfl) ?_)
          · kernel_rfl
          cases hd
          exact rfl
      rintro σ' rfl
      refine AWp.ret ?_
      cases h
      exact ⟨.inr rfl, rfl⟩

noncomputable def f21 (v1 : T31) (v2 : T31) : Option (Bool × Int) :=
  (f19 v1).bind fun v3 => (cond (!v3) (some true) ((f19 v2).bind fun v4 => some (!v4))).bind fun v5 => cond v5 (some (false, (2 : Int))) ((f41 v1 v2).bind fun v6 => some (v6, (0 : Int)))

theorem f21_ok (v1 : T31) (v2 : T31) {r : Bool × Int} (h : f21 v1 v2 = some r) : ACall Try.prog 21 [.agg [.str v1.f0, fzL 3 c48 v1.f1], .agg [.str v2.f0, fzL 3 c48 v2.f1]] [] (.tup [.tv (.bool r.1), .tv (.int .i64 r.2)]) [] := by
  refine ACall.ofN (FF 17 0) (rs := [4, 5]) (env := [(4, .tv (.bool r.1)), (5, .tv (.int .i64 r.2))]) Try.func21 rfl Try.ntmps21 Try.results21 (by decide) (by decide) rfl (Nat.le_of_ble_eq_true rfl) rfl (get_ofN _ _ _ rfl) (ok_ofN _ rfl) ?_
  refine AWp.seq ?_
  refine AWp.start [0, 1, 2, 3] [] [] [2, 3] 2 ⟨[(2, .pc 0 0), (3, .pc 1 0)], [.cells 32 [.str v1.f0, fzL 3 c48 v1.f1], .cells 32 [.str v2.f0, fzL 3 c48 v2.f1]]⟩ rfl ?_ (Nat.zero_le _) trivial ?_
  · kernel_rfl
  refine AOps.nil ?_
  refine AWp.seq ?_
  refine AWp.seq ?_
  refine AWp.pin 0 rfl rfl ?_
  refine AWp.pin 1 rfl rfl ?_
  refine AWp.keepTo [2, 3] 0 ⟨[(2, .rp [.str v1.f0, fzL 3 c48 v1.f1]), (3, .rp [.str v2.f0, fzL 3 c48 v2.f1])], []⟩ ?_ (Nat.zero_le _) ?_
  · kernel_rfl
  refine AWp.start [0] [1, 2, 3, 4, 5, 6, 7] [] [2, 3, 6] 0 ⟨[(2, .rp [.str v1.f0, fzL 3 c48 v1.f1]), (3, .rp [.str v2.f0, fzL 3 c48 v2.f1]), (6, .agg [.str v1.f0, fzL 3 c48 v1.f1])], []⟩ rfl ?_ (Nat.zero_le _) trivial ?_
  · kernel_rfl
  obtain ⟨v3, hv3, h⟩ := of_bind h
  refine AOps.cons (AOne.callP (F := (FF 17 0)) _ rfl rfl rfl _ rfl rfl _ _ rfl Try.call19 [.agg [.str v1.f0, fzL 3 c48 v1.f1]] rfl rfl (f19_ok v1 hv3) rfl) ?_
  refine AOps.go [2, 3] [4, 5, 6, 7] [] [2, 3, 9] 0 ⟨[(2, .rp [.str v1.f0, fzL 3 c48 v1.f1]), (3, .rp [.str v2.f0, fzL 3 c48 v2.f1]), (9, .tv (.bool (!v3)))], []⟩ ?_ (Nat.zero_le _) trivial ?_
  · kernel_rfl
  obtain ⟨v5, hc4, h⟩ := of_bind h
  refine AOps.cut [4, 5, 6, 7] [] (fun σ => σ = ⟨[(2, .rp [.str v1.f0, fzL 3 c48 v1.f1]), (3, .rp [.str v2.f0, fzL 3 c48 v2.f1]), (13, .tv (.bool v5))], []⟩) ?_ fun σ' hJ => ?_
  · refine AOps.split (fun b => ⟨[(2, .rp [.str v1.f0, fzL 3 c48 v1.f1]), (3, .rp [.str v2.f0, fzL 3 c48 v2.f1]), (9, .tv (.bool b))], []⟩) _ (fun hb => ?_) fun hb => ?_
    · replace hc4 := of_true hc4 hb
      refine AOps.go [4, 5, 6, 7] [] [] [2, 3, 13] 0 ⟨[(2, .rp [.str v1.f0, fzL 3 c48 v1.f1]), (3, .rp [.str v2.f0, fzL 3 c48 v2.f1]), (13, .tv (.bool true))], []⟩ ?_ (Nat.zero_le _) trivial ?_
      · kernel_rfl
      cases hc4
      exact AOps.nil rfl
    · replace hc4 := of_false hc4 hb
      refine AOps.go [4] [5, 6, 7] [] [2, 3, 9, 10] 0 ⟨[(2, .rp [.str v1.f0, fzL 3 c48 v1.f1]), (3, .rp [.str v2.f0, fzL 3 c48 v2.f1]), (9, .tv (.bool false)), (10, .agg [.str v2.f0, fzL 3 c48 v2.f1])], []⟩ ?_ (Nat.zero_le _) trivial ?_
      · kernel_rfl
      obtain ⟨v4, hv4, hc4⟩ := of_bind hc4
      refine AOps.cons (AOne.callP (F := (FF 17 0)) _ rfl rfl rfl _ rfl rfl _ _ rfl Try.call19 [.agg [.str v2.f0, fzL 3 c48 v2.f1]] rfl rfl (f19_ok v2 hv4) rfl) ?_
      refine AOps.go [6, 7] [] [] [2, 3, 13] 0 ⟨[(2, .rp [.str v1.f0, fzL 3 c48 v1.f1]), (3, .rp [.str v2.f0, fzL 3 c48 v2.f1]), (13, .tv (.bool (!v4)))], []⟩ ?_ (Nat.zero_le _) trivial ?_
      · kernel_rfl
      cases hc4
      exact AOps.nil rfl
  subst hJ
  refine AOps.nil ?_
  refine AWp.cond rfl (fun hb => ?_) fun hb => ?_
  · replace h := of_true h hb
    refine AWp.keepTo [] 0 ⟨[], []⟩ ?_ (Nat.zero_le _) ?_
    · kernel_rfl
    refine AWp.seq ?_
    refine AWp.start [0, 1] [] [] [4, 5] 0 ⟨[(4, .tv (.bool false)), (5, .tv (.int .i64 (2 : Int)))], []⟩ rfl ?_ (Nat.zero_le _) trivial ?_
    · kernel_rfl
    refine AOps.nil ?_
    refine AWp.ret ?_
    cases h
    exact ⟨.inr rfl, rfl⟩
  · replace h := of_false h hb
    refine AWp.keepTo [2, 3] 0 ⟨[(2, .rp [.str v1.f0, fzL 3 c48 v1.f1]), (3, .rp [.str v2.f0, fzL 3 c48 v2.f1])], []⟩ ?_ (Nat.zero_le _) ?_
    · kernel_rfl
    refine AWp.skip ?_
    refine AWp.seq ?_
    refine AWp.start [0, 1] [2, 3, 4] [] [14, 15] 0 ⟨[(14, .agg [.str v1.f0, fzL 3 c48 v1.f1]), (15, .agg [.str v2.f0, fzL 3 c48 v2.f1])], []⟩ rfl ?_ (Nat.zero_le _) trivial ?_
    · kernel_rfl
    obtain ⟨v6, hv6, h⟩ := of_bind h
    refine AOps.cons (AOne.callP (F := (FF 17 0)) _ rfl rfl rfl _ rfl rfl _ _ rfl Try.call41 [.agg [.str v1.f0, fzL 3 c48 v1.f1], .agg [.str v2.f0, fzL 3 c48 v2.f1]] rfl rfl (f41_ok v1 v2 hv6) rfl) ?_
    refine AOps.go [3, 4] [] [] [4, 5] 0 ⟨[(4, .tv (.bool v6)), (5, .tv (.int .i64 (0 : Int)))], []⟩ ?_ (Nat.zero_le _) trivial ?_
    · kernel_rfl
    refine AOps.nil ?_
    refine AWp.ret ?_
    cases h
    exact ⟨.inr rfl, rfl⟩

noncomputable def f22 (v1 : T31) (v2 : T31) : Option (Bool × Int) :=
  (f20 v1).bind fun v3 => (cond (!v3) (some true) ((f20 v2).bind fun v4 => some (!v4))).bind fun v5 => cond v5 (some (false, (2 : Int))) ((f42 v1 v2).bind fun v6 => some (v6, (0 : Int)))

theorem f22_ok (v1 : T31) (v2 : T31) {r : Bool × Int} (h : f22 v1 v2 = some r) : ACall Try.prog 22 [.agg [.str v1.f0, fzL 3 c48 v1.f1], .agg [.str v2.f0, fzL 3 c48 v2.f1]] [] (.tup [.tv (.bool r.1), .tv (.int .i64 r.2)]) [] := by
  refine ACall.ofN (FF 17 0) (rs := [4, 5]) (env := [(4, .tv (.bool r.1)), (5, .tv (.int .i64 r.2))]) Try.func22 rfl Try.ntmps22 Try.results22 (by decide) (by decide) rfl (Nat.le_of_ble_eq_true rfl) rfl (get_ofN _ _ _ rfl) (ok_ofN _ rfl) ?_
  refine AWp.seq ?_
  refine AWp.start [0, 1, 2, 3] [] [] [2, 3] 2 ⟨[(2, .pc 0 0), (3, .pc 1 0)], [.cells 32 [.str v1.f0, fzL 3 c48 v1.f1], .cells 32 [.str v2.f0, fzL 3 c48 v2.f1]]⟩ rfl ?_ (Nat.zero_le _) trivial ?_
  · kernel_rfl
  refine AOps.nil ?_
  refine AWp.seq ?_
  refine AWp.seq ?_
  refine AWp.pin 0 rfl rfl ?_
  refine AWp.pin 1 rfl rfl ?_
  refine AWp.keepTo [2, 3] 0 ⟨[(2, .rp [.str v1.f0, fzL 3 c48 v1.f1]), (3, .rp [.str v2.f0, fzL 3 c48 v2.f1])], []⟩ ?_ (Nat.zero_le _) ?_
  · kernel_rfl
  refine AWp.start [0] [1, 2, 3, 4, 5, 6, 7] [] [2, 3, 6] 0 ⟨[(2, .rp [.str v1.f0, fzL 3 c48 v1.f1]), (3, .rp [.str v2.f0, fzL 3 c48 v2.f1]), (6, .agg [.str v1.f0, fzL 3 c48 v1.f1])], []⟩ rfl ?_ (Nat.zero_le _) trivial ?_
  · kernel_rfl
  obtain ⟨v3, hv3, h⟩ := of_bind h
  refine AOps.cons (AOne.callP (F := (FF 17 0)) _ rfl rfl rfl _ rfl rfl _ _ rfl Try.call20 [.agg [.str v1.f0, fzL 3 c48 v1.f1]] rfl rfl (f20_ok v1 hv3) rfl) ?_
  refine AOps.go [2, 3] [4, 5, 6, 7] [] [2, 3, 9] 0 ⟨[(2, .rp [.str v1.f0, fzL 3 c48 v1.f1]), (3, .rp [.str v2.f0, fzL 3 c48 v2.f1]), (9, .tv (.bool (!v3)))], []⟩ ?_ (Nat.zero_le _) trivial ?_
  · kernel_rfl
  obtain ⟨v5, hc4, h⟩ := of_bind h
  refine AOps.cut [4, 5, 6, 7] [] (fun σ => σ = ⟨[(2, .rp [.str v1.f0, fzL 3 c48 v1.f1]), (3, .rp [.str v2.f0, fzL 3 c48 v2.f1]), (13, .tv (.bool v5))], []⟩) ?_ fun σ' hJ => ?_
  · refine AOps.split (fun b => ⟨[(2, .rp [.str v1.f0, fzL 3 c48 v1.f1]), (3, .rp [.str v2.f0, fzL 3 c48 v2.f1]), (9, .tv (.bool b))], []⟩) _ (fun hb => ?_) fun hb => ?_
    · replace hc4 := of_true hc4 hb
      refine AOps.go [4, 5, 6, 7] [] [] [2, 3, 13] 0 ⟨[(2, .rp [.str v1.f0, fzL 3 c48 v1.f1]), (3, .rp [.str v2.f0, fzL 3 c48 v2.f1]), (13, .tv (.bool true))], []⟩ ?_ (Nat.zero_le _) trivial ?_
      · kernel_rfl
      cases hc4
      exact AOps.nil rfl
    · replace hc4 := of_false hc4 hb
      refine AOps.go [4] [5, 6, 7] [] [2, 3, 9, 10] 0 ⟨[(2, .rp [.str v1.f0, fzL 3 c48 v1.f1]), (3, .rp [.str v2.f0, fzL 3 c48 v2.f1]), (9, .tv (.bool false)), (10, .agg [.str v2.f0, fzL 3 c48 v2.f1])], []⟩ ?_ (Nat.zero_le _) trivial ?_
      · kernel_rfl
      obtain ⟨v4, hv4, hc4⟩ := of_bind hc4
      refine AOps.cons (AOne.callP (F := (FF 17 0)) _ rfl rfl rfl _ rfl rfl _ _ rfl Try.call20 [.agg [.str v2.f0, fzL 3 c48 v2.f1]] rfl rfl (f20_ok v2 hv4) rfl) ?_
      refine AOps.go [6, 7] [] [] [2, 3, 13] 0 ⟨[(2, .rp [.str v1.f0, fzL 3 c48 v1.f1]), (3, .rp [.str v2.f0, fzL 3 c48 v2.f1]), (13, .tv (.bool (!v4)))], []⟩ ?_ (Nat.zero_le _) trivial ?_
      · kernel_rfl
      cases hc4
      exact AOps.nil rfl
  subst hJ
  refine AOps.nil ?_
  refine AWp.cond rfl (fun hb => ?_) fun hb => ?_
  · replace h := of_true h hb
    refine AWp.keepTo [] 0 ⟨[], []⟩ ?_ (Nat.zero_le _) ?_
    · kernel_rfl
    refine AWp.seq ?_
    refine AWp.start [0, 1] [] [] [4, 5] 0 ⟨[(4, .tv (.bool false)), (5, .tv (.int .i64 (2 : Int)))], []⟩ rfl ?_ (Nat.zero_le _) trivial ?_
    · kernel_rfl
    refine AOps.nil ?_
    refine AWp.ret ?_
    cases h
    exact ⟨.inr rfl, rfl⟩
  · replace h := of_false h hb
    refine AWp.keepTo [2, 3] 0 ⟨[(2, .rp [.str v1.f0, fzL 3 c48 v1.f1]), (3, .rp [.str v2.f0, fzL 3 c48 v2.f1])], []⟩ ?_ (Nat.zero_le _) ?_
    · kernel_rfl
    refine AWp.skip ?_
    refine AWp.seq ?_
    refine AWp.start [0, 1] [2, 3, 4] [] [14, 15] 0 ⟨[(14, .agg [.str v1.f0, fzL 3 c48 v1.f1]), (15, .agg [.str v2.f0, fzL 3 c48 v2.f1])], []⟩ rfl ?_ (Nat.zero_le _) trivial ?_
    · kernel_rfl
    obtain ⟨v6, hv6, h⟩ := of_bind h
    refine AOps.cons (AOne.callP (F := (FF 17 0)) _ rfl rfl rfl _ rfl rfl _ _ rfl Try.call42 [.agg [.str v1.f0, fzL 3 c48 v1.f1], .agg [.str v2.f0, fzL 3 c48 v2.f1]] rfl rfl (f42_ok v1 v2 hv6) rfl) ?_
    refine AOps.go [3, 4] [] [] [4, 5] 0 ⟨[(4, .tv (.bool v6)), (5, .tv (.int .i64 (0 : Int)))], []⟩ ?_ (Nat.zero_le _) trivial ?_
    · kernel_rfl
    refine AOps.nil ?_
    refine AWp.ret ?_
    cases h
    exact ⟨.inr rfl, rfl⟩

noncomputable def f23 (v1 : T31) (v2 : T31) : Option ((List T48) × Int) :=
  (f19 v1).bind fun v3 => (cond (!v3) (some true) ((f19 v2).bind fun v4 => some (!v4))).bind fun v5 => cond v5 (some (([] : List T48), (2 : Int))) ((f43 v1 v2).bind fun v6 => cond (!v6.2) (some (([] : List T48), (5 : Int))) (some (v6.1, (0 : Int))))

theorem f23_ok (v1 : T31) (v2 : T31) {r : (List T48) × Int} (h : f23 v1 v2 = some r) : ACall Try.prog 23 [.agg [.str v1.f0, fzL 3 c48 v1.f1], .agg [.str v2.f0, fzL 3 c48 v2.f1]] [] (.tup [.tv (fzL 3 c48 r.1), .tv (.int .i64 r.2)]) [] := by
  refine ACall.ofN (FF 25 0) (rs := [4, 5]) (env := [(4, .tv (fzL 3 c48 r.1)), (5, .tv (.int .i64 r.2))]) Try.func23 rfl Try.ntmps23 Try.results23 (by decide) (by decide) rfl (Nat.le_of_ble_eq_true rfl) rfl (get_ofN _ _ _ rfl) (ok_ofN _ rfl) ?_
  refine AWp.seq ?_
  refine AWp.start [0, 1, 2, 3] [] [] [2, 3] 2 ⟨[(2, .pc 0 0), (3, .pc 1 0)], [.cells 32 [.str v1.f0, fzL 3 c48 v1.f1], .cells 32 [.str v2.f0, fzL 3 c48 v2.f1]]⟩ rfl ?_ (Nat.zero_le _) trivial ?_
  · kernel_rfl
  refine AOps.nil ?_
  refine AWp.seq ?_
  refine AWp.seq ?_
  refine AWp.pin 0 rfl rfl ?_
  refine AWp.pin 1 rfl rfl ?_
  refine AWp.keepTo [2, 3] 0 ⟨[(2, .rp [.str v1.f0, fzL 3 c48 v1.f1]), (3, .rp [.str v2.f0, fzL 3 c48 v2.f1])], []⟩ ?_ (Nat.zero_le _) ?_
  · kernel_rfl
  refine AWp.start [0] [1, 2, 3, 4, 5, 6, 7] [] [2, 3, 8] 0 ⟨[(2, .rp [.str v1.f0, fzL 3 c48 v1.f1]), (3, .rp [.str v2.f0, fzL 3 c48 v2.f1]), (8, .agg [.str v1.f0, fzL 3 c48 v1.f1])], []⟩ rfl ?_ (Nat.zero_le _) trivial ?_
  · kernel_rfl
  obtain ⟨v3, hv3, h⟩ := of_bind h
  refine AOps.cons (AOne.callP (F := (FF 25 0)) _ rfl rfl rfl _ rfl rfl _ _ rfl Try.call19 [.agg [.str v1.f0, fzL 3 c48 v1.f1]] rfl rfl (f19_ok v1 hv3) rfl) ?_
  refine AOps.go [2, 3] [4, 5, 6, 7] [] [2, 3, 11] 0 ⟨[(2, .rp [.str v1.f0, fzL 3 c48 v1.f1]), (3, .rp [.str v2.f0, fzL 3 c48 v2.f1]), (11, .tv (.bool (!v3)))], []⟩ ?_ (Nat.zero_le _) trivial ?_
  · kernel_rfl
  obtain ⟨v5, hc4, h⟩ := of_bind h
  refine AOps.cut [4, 5, 6, 7] [] (fun σ => σ = ⟨[(2, .rp [.str v1.f0, fzL 3 c48 v1.f1]), (3, .rp [.str v2.f0, fzL 3 c48 v2.f1]), (15, .tv (.bool v5))], []⟩) ?_ fun σ' hJ => ?_
  · refine AOps.split (fun b => ⟨[(2, .rp [.str v1.f0, fzL 3 c48 v1.f1]), (3, .rp [.str v2.f0, fzL 3 c48 v2.f1]), (11, .tv (.bool b))], []⟩) _ (fun hb => ?_) fun hb => ?_
    · replace hc4 := of_true hc4 hb
      refine AOps.go [4, 5, 6, 7] [] [] [2, 3, 15] 0 ⟨[(2, .rp [.str v1.f0, fzL 3 c48 v1.f1]), (3, .rp [.str v2.f0, fzL 3 c48 v2.f1]), (15, .tv (.bool true))], []⟩ ?_ (Nat.zero_le _) trivial ?_
      · kernel_rfl
      cases hc4
      exact AOps.nil rfl
    · replace hc4 := of_false hc4 hb
      refine AOps.go [4] [5, 6, 7] [] [2, 3, 11, 12] 0 ⟨[(2, .rp [.str v1.f0, fzL 3 c48 v1.f1]), (3, .rp [.str v2.f0, fzL 3 c48 v2.f1]), (11, .tv (.bool false)), (12, .agg [.str v2.f0, fzL 3 c48 v2.f1])], []⟩ ?_ (Nat.zero_le _) trivial ?_
      · kernel_rfl
      obtain ⟨v4, hv4, hc4⟩ := of_bind hc4
      refine AOps.cons (AOne.callP (F := (FF 25 0)) _ rfl rfl rfl _ rfl rfl _ _ rfl Try.call19 [.agg [.str v2.f0, fzL 3 c48 v2.f1]] rfl rfl (f19_ok v2 hv4) rfl) ?_
      refine AOps.go [6, 7] [] [] [2, 3, 15] 0 ⟨[(2, .rp [.str v1.f0, fzL 3 c48 v1.f1]), (3, .rp [.str v2.f0, fzL 3 c48 v2.f1]), (15, .tv (.bool (!v4)))], []⟩ ?_ (Nat.zero_le _) trivial ?_
      · kernel_rfl
      cases hc4
      exact AOps.nil rfl
  subst hJ
  refine AOps.nil ?_
  refine AWp.cond rfl (fun hb => ?_) fun hb => ?_
  · replace h := of_true h hb
    refine AWp.keepTo [] 0 ⟨[], []⟩ ?_ (Nat.zero_le _) ?_
    · kernel_rfl
    refine AWp.seq ?_
    refine AWp.start [0, 1] [] [] [4, 5] 0 ⟨[(4, .tv (.sc (.slice none 0 0))), (5, .tv (.int .i64 (2 : Int)))], []⟩ rfl ?_ (Nat.zero_le _) trivial ?_
    · kernel_rfl
    refine AOps.nil ?_
    refine AWp.nilFz 4 3 (fun i => c48 (([] : List T48).getD i default)) rfl ?_
    refine AWp.keepTo [4, 5] 0 ⟨[(4, .tv (fzL 3 c48 ([] : List T48))), (5, .tv (.int .i64 (2 : Int)))], []⟩ ?_ (Nat.zero_le _) ?_
    · kernel_rfl
    refine AWp.ret ?_
    cases h
    exact ⟨.inr rfl, rfl⟩
  · replace h := of_false h hb
    refine AWp.keepTo [2, 3] 0 ⟨[(2, .rp [.str v1.f0, fzL 3 c48 v1.f1]), (3, .rp [.str v2.f0, fzL 3 c48 v2.f1])], []⟩ ?_ (Nat.zero_le _) ?_
    · kernel_rfl
    refine AWp.skip ?_
    refine AWp.seq ?_
    refine AWp.start [0, 1] [2, 3, 4, 5, 6, 7] [] [17, 18] 0 ⟨[(17, .agg [.str v1.f0, fzL 3 c48 v1.f1]), (18, .agg [.str v2.f0, fzL 3 c48 v2.f1])], []⟩ rfl ?_ (Nat.zero_le _) trivial ?_
    · kernel_rfl
    obtain ⟨v6, hv6, h⟩ := of_bind h
    refine AOps.cons (AOne.callP (F := (FF 25 0)) _ rfl rfl rfl _ rfl rfl _ _ rfl Try.call43 [.agg [.str v1.f0, fzL 3 c48 v1.f1], .agg [.str v2.f0, fzL 3 c48 v2.f1]] rfl rfl (f43_ok v1 v2 hv6) rfl) ?_
    refine AOps.go [3, 4, 5, 6, 7] [] [] [6, 7] 0 ⟨[(6, .tv (fzL 3 c48 v6.1)), (7, .tv (.bool v6.2))], []⟩ ?_ (Nat.zero_le _) trivial ?_
    · kernel_rfl
    refine AOps.nil ?_
    refine AWp.seq ?_
    refine AWp.seq ?_
    refine AWp.start [0, 1] [] [] [6, 23] 0 ⟨[(6, .tv (fzL 3 c48 v6.1)), (23, .tv (.bool (!v6.2)))], []⟩ rfl ?_ (Nat.zero_le _) trivial ?_
    · kernel_rfl
    refine AOps.nil ?_
    refine AWp.cond rfl (fun hb => ?_) fun hb => ?_
    · replace h := of_true h hb
      refine AWp.keepTo [] 0 ⟨[], []⟩ ?_ (Nat.zero_le _) ?_
      · kernel_rfl
      refine AWp.seq ?_
      refine AWp.start [0, 1] [] [] [4, 5] 0 ⟨[(4, .tv (.sc (.slice none 0 0))), (5, .tv (.int .i64 (5 : Int)))], []⟩ rfl ?_ (Nat.zero_le _) trivial ?_
      · kernel_rfl
      refine AOps.nil ?_
      refine AWp.nilFz 4 3 (fun i => c48 (([] : List T48).getD i default)) rfl ?_
      refine AWp.keepTo [4, 5] 0 ⟨[(4, .tv (fzL 3 c48 ([] : List T48))), (5, .tv (.int .i64 (5 : Int)))], []⟩ ?_ (Nat.zero_le _) ?_
      · kernel_rfl
      refine AWp.ret ?_
      cases h
      exact ⟨.inr rfl, rfl⟩
    · replace h := of_false h hb
      refine AWp.keepTo [6] 0 ⟨[(6, .tv (fzL 3 c48 v6.1))], []⟩ ?_ (Nat.zero_le _) ?_
      · kernel_rfl
      refine AWp.skip ?_
      refine AWp.seq ?_
      refine AWp.start [0, 1, 2] [] [] [4, 5] 0 ⟨[(4, .tv (fzL 3 c48 v6.1)), (5, .tv (.int .i64 (0 : Int)))], []⟩ rfl ?_ (Nat.zero_le _) trivial ?_
      · kernel_rfl
      refine AOps.nil ?_
      refine AWp.ret ?_
      cases h
      exact ⟨.inr rfl, rfl⟩

noncomputable def f24 (v1 : T31) (v2 : T31) : Option ((List T48) × Int) :=
  (f20 v1).bind fun v3 => (cond (!v3) (some true) ((f20 v2).bind fun v4 => some (!v4))).bind fun v5 => cond v5 (some (([] : List T48), (2 : Int))) ((f44 v1 v2).bind fun v6 => cond (!v6.2) (some (([] : List T48), (5 : Int))) (some (v6.1, (0 : Int))))

theorem f24_ok (v1 : T31) (v2 : T31) {r : (List T48) × Int} (h : f24 v1 v2 = some r) : ACall Try.prog 24 [.agg [.str v1.f0, fzL 3 c48 v1.f1], .agg [.str v2.f0, fzL 3 c48 v2.f1]] [] (.tup [.tv (fzL 3 c48 r.1), .tv (.int .i64 r.2)]) [] := by
  refine ACall.ofN (FF 25 0) (rs := [4, 5]) (env := [(4, .tv (fzL 3 c48 r.1)), (5, .tv (.int .i64 r.2))]) Try.func24 rfl Try.ntmps24 Try.results24 (by decide) (by decide) rfl (Nat.le_of_ble_eq_true rfl) rfl (get_ofN _ _ _ rfl) (ok_ofN _ rfl) ?_
  refine AWp.seq ?_
  refine AWp.start [0, 1, 2, 3] [] [] [2, 3] 2 ⟨[(2, .pc 0 0), (3, .pc 1 0)], [.cells 32 [.str v1.f0, fzL 3 c48 v1.f1], .cells 32 [.str v2.f0, fzL 3 c48 v2.f1]]⟩ rfl ?_ (Nat.zero_le _) trivial ?_
  · kernel_rfl
  refine AOps.nil ?_
  refine AWp.seq ?_
  refine AWp.seq ?_
  refine AWp.pin 0 rfl rfl ?_
  refine AWp.pin 1 rfl rfl ?_
  refine AWp.keepTo [2, 3] 0 ⟨[(2, .rp [.str v1.f0, fzL 3 c48 v1.f1]), (3, .rp [.str v2.f0, fzL 3 c48 v2.f1])], []⟩ ?_ (Nat.zero_le _) ?_
  · kernel_rfl
  refine AWp.start [0] [1, 2, 3, 4, 5, 6, 7] [] [2, 3, 8] 0 ⟨[(2, .rp [.str v1.f0, fzL 3 c48 v1.f1]), (3, .rp [.str v2.f0, fzL 3 c48 v2.f1]), (8, .agg [.str v1.f0, fzL 3 c48 v1.f1])], []⟩ rfl ?_ (Nat.zero_le _) trivial ?_
  · kernel_rfl
  obtain ⟨v3, hv3, h⟩ := of_bind h
  refine AOps.cons (AOne.callP (F := (FF 25 0)) _ rfl rfl rfl _ rfl rfl _ _ rfl Try.call20 [.agg [.str v1.f0, fzL 3 c48 v1.f1]] rfl rfl (f20_ok v1 hv3) rfl) ?_
  refine AOps.go [2, 3] [4, 5, 6, 7] [] [2, 3, 11] 0 ⟨[(2, .rp [.str v1.f0, fzL 3 c48 v1.f1]), (3, .rp [.str v2.f0, fzL 3 c48 v2.f1]), (11, .tv (.bool (!v3)))], []⟩ ?_ (Nat.zero_le _) trivial ?_
  · kernel_rfl
  obtain ⟨v5, hc4, h⟩ := of_bind h
  refine AOps.cut [4, 5, 6, 7] [] (fun σ => σ = ⟨[(2, .rp [.str v1.f0, fzL 3 c48 v1.f1]), (3, .rp [.str v2.f0, fzL 3 c48 v2.f1]), (15, .tv (.bool v5))], []⟩) ?_ fun σ' hJ => ?_
  · refine AOps.split (fun b => ⟨[(2, .rp [.str v1.f0, fzL 3 c48 v1.f1]), (3, .rp [.str v2.f0, fzL 3 c48 v2.f1]), (11, .tv (.bool b))], []⟩) _ (fun hb => ?_) fun hb => ?_
    · replace hc4 := of_true hc4 hb
      refine AOps.go [4, 5, 6, 7] [] [] [2, 3, 15] 0 ⟨[(2, .rp [.str v1.f0, fzL 3 c48 v1.f1]), (3, .rp [.str v2.f0, fzL 3 c48 v2.f1]), (15, .tv (.bool true))], []⟩ ?_ (Nat.zero_le _) trivial ?_
      · kernel_rfl
      cases hc4
      exact AOps.nil rfl
    · replace hc4 := of_false hc4 hb
      refine AOps.go [4] [5, 6, 7] [] [2, 3, 11, 12] 0 ⟨[(2, .rp [.str v1.f0, fzL 3 c48 v1.f1]), (3, .rp [.str v2.f0, fzL 3 c48 v2.f1]), (11, .tv (.bool false)), (12, .agg [.str v2.f0, fzL 3 c48 v2.f1])], []⟩ ?_ (Nat.zero_le _) trivial ?_
      · kernel_rfl
      obtain ⟨v4, hv4, hc4⟩ := of_bind hc4
      refine AOps.cons (AOne.callP (F := (FF 25 0)) _ rfl rfl rfl _ rfl rfl _ _ rfl Try.call20 [.agg [.str v2.f0, fzL 3 c48 v2.f1]] rfl rfl (f20_ok v2 hv4) rfl) ?_
      refine AOps.go [6, 7] [] [] [2, 3, 15] 0 ⟨[(2, .rp [.str v1.f0, fzL 3 c48 v1.f1]), (3, .rp [.str v2.f0, fzL 3 c48 v2.f1]), (15, .tv (.bool (!v4)))], []⟩ ?_ (Nat.zero_le _) trivial ?_
      · kernel_rfl
      cases hc4
      exact AOps.nil rfl
  subst hJ
  refine AOps.nil ?_
  refine AWp.cond rfl (fun hb => ?_) fun hb => ?_
  · replace h := of_true h hb
    refine AWp.keepTo [] 0 ⟨[], []⟩ ?_ (Nat.zero_le _) ?_
    · kernel_rfl
    refine AWp.seq ?_
    refine AWp.start [0, 1] [] [] [4, 5] 0 ⟨[(4, .tv (.sc (.slice none 0 0))), (5, .tv (.int .i64 (2 : Int)))], []⟩ rfl ?_ (Nat.zero_le _) trivial ?_
    · kernel_rfl
    refine AOps.nil ?_
    refine AWp.nilFz 4 3 (fun i => c48 (([] : List T48).getD i default)) rfl ?_
    refine AWp.keepTo [4, 5] 0 ⟨[(4, .tv (fzL 3 c48 ([] : List T48))), (5, .tv (.int .i64 (2 : Int)))], []⟩ ?_ (Nat.zero_le _) ?_
    · kernel_rfl
    refine AWp.ret ?_
    cases h
    exact ⟨.inr rfl, rfl⟩
  · replace h := of_false h hb
    refine AWp.keepTo [2, 3] 0 ⟨[(2, .rp [.str v1.f0, fzL 3 c48 v1.f1]), (3, .rp [.str v2.f0, fzL 3 c48 v2.f1])], []⟩ ?_ (Nat.zero_le _) ?_
    · kernel_rfl
    refine AWp.skip ?_
    refine AWp.seq ?_
    refine AWp.start [0, 1] [2, 3, 4, 5, 6, 7] [] [17, 18] 0 ⟨[(17, .agg [.str v1.f0, fzL 3 c48 v1.f1]), (18, .agg [.str v2.f0, fzL 3 c48 v2.f1])], []⟩ rfl ?_ (Nat.zero_le _) trivial ?_
    · kernel_rfl
    obtain ⟨v6, hv6, h⟩ := of_bind h
    refine AOps.cons (AOne.callP (F := (FF 25 0)) _ rfl rfl rfl _ rfl rfl _ _ rfl Try.call44 [.agg [.str v1.f0, fzL 3 c48 v1.f1], .agg [.str v2.f0, fzL 3 c48 v2.f1]] rfl rfl (f44_ok v1 v2 hv6) rfl) ?_
    refine AOps.go [3, 4, 5, 6, 7] [] [] [6, 7] 0 ⟨[(6, .tv (fzL 3 c48 v6.1)), (7, .tv (.bool v6.2))], []⟩ ?_ (Nat.zero_le _) trivial ?_
    · kernel_rfl
    refine AOps.nil ?_
    refine AWp.seq ?_
    refine AWp.seq ?_
    refine AWp.start [0, 1] [] [] [6, 23] 0 ⟨[(6, .tv (fzL 3 c48 v6.1)), (23, .tv (.bool (!v6.2)))], []⟩ rfl ?_ (Nat.zero_le _) trivial ?_
    · kernel_rfl
    refine AOps.nil ?_
    refine AWp.cond rfl (fun hb => ?_) fun hb => ?_
    · replace h := of_true h hb
      refine AWp.keepTo [] 0 ⟨[], []⟩ ?_ (Nat.zero_le _) ?_
      · kernel_rfl
      refine AWp.seq ?_
      refine AWp.start [0, 1] [] [] [4, 5] 0 ⟨[(4, .tv (.sc (.slice none 0 0))), (5, .tv (.int .i64 (5 : Int)))], []⟩ rfl ?_ (Nat.zero_le _) trivial ?_
      · kernel_rfl
      refine AOps.nil ?_
      refine AWp.nilFz 4 3 (fun i => c48 (([] : List T48).getD i default)) rfl ?_
      refine AWp.keepTo [4, 5] 0 ⟨[(4, .tv (fzL 3 c48 ([] : List T48))), (5, .tv (.int .i64 (5 : Int)))], []⟩ ?_ (Nat.zero_le _) ?_
      · kernel_rfl
      refine AWp.ret ?_
      cases h
      exact ⟨.inr rfl, rfl⟩
    · replace h := of_false h hb
      refine AWp.keepTo [6] 0 ⟨[(6, .tv (fzL 3 c48 v6.1))], []⟩ ?_ (Nat.zero_le _) ?_
      · kernel_rfl
      refine AWp.skip ?_
      refine AWp.seq ?_
      refine AWp.start [0, 1, 2] [] [] [4, 5] 0 ⟨[(4, .tv (fzL 3 c48 v6.1)), (5, .tv (.int .i64 (0 : Int)))], []⟩ rfl ?_ (Nat.zero_le _) trivial ?_
      · kernel_rfl
      refine AOps.nil ?_
      refine AWp.ret ?_
      cases h
      exact ⟨.inr rfl, rfl⟩

noncomputable def f25_b1 (v1 : List T48) (v2 : List T48) (v3 : Int) : Option (Int ⊕ Out Bool Unit) :=
  cond (decide (v3 < (v1.length : Int))) (if (0 : Int) ≤ v3 ∧ v3 < (v1.length : Int) ∧ (0 : Int) ≤ v3 ∧ v3 < (v2.length : Int) then cond (!((((v1.getD v3.toNat default).f0) == ((v2.getD v3.toNat default).f0)) && ((((v1.getD v3.toNat default).f1) == ((v2.getD v3.toNat default).f1)) && (((v1.getD v3.toNat default).f2) == ((v2.getD v3.toNat default).f2))))) (some (.inr (.ret false))) (some (.inl (w64 (v3 + (1 : Int))))) else none) (some (.inr (.go ())))

noncomputable def f25 (v1 : List T48) (v2 : List T48) : Option Bool :=
  cond ((v1.length : Int) != (v2.length : Int)) (some false) ((iter (fun s => f25_b1 v1 v2 s) (0 : Int)).bind fun y => match y with | .ret v4 => some v4 | .go _ => some true)

theorem f25_ok (v1 : List T48) (v2 : List T48) {r : Bool} (h : f25 v1 v2 = some r) : ACall Try.prog 25 [.tv (fzL 3 c48 v1), .tv (fzL 3 c48 v2)] [] (.tv (.bool r)) [] := by
  refine ACall.of1 (FF 26 0) Try.func25 rfl Try.ntmps25 Try.results25 (Nat.le_of_ble_eq_true rfl) rfl rfl ?_
  refine AWp.seq ?_
  refine AWp.start [0] [] [] [0, 1] 0 ⟨[(0, .tv (fzL 3 c48 v1)), (1, .tv (fzL 3 c48 v2))], []⟩ rfl ?_ (Nat.zero_le _) trivial ?_
  · kernel_rfl
  refine AOps.nil ?_
  refine AWp.seq ?_
  refine AWp.seq ?_
  refine AWp.start [0, 1, 2, 3, 4] [] [] [0, 1, 10] 0 ⟨[(0, .tv (fzL 3 c48 v1)), (1, .tv (fzL 3 c48 v2)), (10, .tv (.bool ((v1.length : Int) != (v2.length : Int))))], []⟩ rfl ?_ (Nat.zero_le _) trivial ?_
  · kernel_rfl
  refine AOps.nil ?_
  refine AWp.cond rfl (fun hb => ?_) fun hb => ?_
  · replace h := of_true h hb
    refine AWp.keepTo [] 0 ⟨[], []⟩ ?_ (Nat.zero_le _) ?_
    · kernel_rfl
    refine AWp.seq ?_
    refine AWp.start [0] [] [] [4] 0 ⟨[(4, .tv (.bool false))], []⟩ rfl ?_ (Nat.zero_le _) trivial ?_
    · kernel_rfl
    refine AOps.nil ?_
    refine AWp.ret ?_
    cases h
    exact ⟨.inr rfl, rfl⟩
  · replace h := of_false h hb
    refine AWp.keepTo [0, 1] 0 ⟨[(0, .tv (fzL 3 c48 v1)), (1, .tv (fzL 3 c48 v2))], []⟩ ?_ (Nat.zero_le _) ?_
    · kernel_rfl
    refine AWp.skip ?_
    refine AWp.seq ?_
    refine AWp.seq ?_
    refine AWp.start [0] [] [] [0, 1, 5] 0 ⟨[(0, .tv (fzL 3 c48 v1)), (1, .tv (fzL 3 c48 v2)), (5, .tv (.int .i64 (0 : Int)))], []⟩ rfl ?_ (Nat.zero_le _) trivial ?_
    · kernel_rfl
    refine AOps.nil ?_
    refine AWp.block ?_
    obtain ⟨y, hy, h⟩ := of_bind h
    refine AWp.mono (AWp.loop (S := Int) (Y := Out Bool Unit) (fun s => ⟨[(0, .tv (fzL 3 c48 v1)), (1, .tv (fzL 3 c48 v2)), (5, .tv (.int .i64 s))], []⟩) (fun s => f25_b1 v1 v2 s) (fun y e σ => match y with | .ret r => e = .ret ∧ σ = ⟨[(4, .tv (.bool r))], []⟩ | .go v => e = .exit 0 ∧ σ = ⟨[], []⟩) ?_ hy) ?_
    · rintro v3 o h
      refine AWp.seq ?_
      refine AWp.seq ?_
      refine AWp.start [0, 1, 2, 3] [] [] [0, 1, 5, 14] 0 ⟨[(0, .tv (fzL 3 c48 v1)), (1, .tv (fzL 3 c48 v2)), (5, .tv (.int .i64 v3)), (14, .tv (.bool (decide (v3 < (v1.length : Int)))))], []⟩ rfl ?_ (Nat.zero_le _) trivial ?_
      · kernel_rfl
      refine AOps.nil ?_
      refine AWp.cond rfl (fun hb => ?_) fun hb => ?_
      · replace h := of_true h hb
        refine AWp.keepTo [0, 1, 5] 0 ⟨[(0, .tv (fzL 3 c48 v1)), (1, .tv (fzL 3 c48 v2)), (5, .tv (.int .i64 v3))], []⟩ ?_ (Nat.zero_le _) ?_
        · kernel_rfl
        refine AWp.skip ?_
        refine AWp.seq ?_
        refine AWp.block ?_
        refine AWp.seq ?_
        refine AWp.draw FFm _ (n := 9) rfl (ls := #[false, false, false, false, false, false, false, false, false]) rfl ?_ (fun _ h => h)
        obtain ⟨hg, h⟩ := of_guard h
        refine AAny.go (by kernel_rfl) [0, 1, 2, 3, 4, 5, 6, 7, 8] (fuel' := 0) rfl [(0 : Int) ≤ v3, v3 < (v1.length : Int), (0 : Int) ≤ v3, v3 < (v2.length : Int)] #[true, true, true, true, true, true, true, true, true] [0, 1, 5, 25] 0 ⟨[(0, .tv (fzL 3 c48 v1)), (1, .tv (fzL 3 c48 v2)), (5, .tv (.int .i64 v3)), (25, .tv (.bool (!((((v1.getD v3.toNat default).f0) == ((v2.getD v3.toNat default).f0)) && ((((v1.getD v3.toNat default).f1) == ((v2.getD v3.toNat default).f1)) && (((v1.getD v3.toNat default).f2) == ((v2.getD v3.toNat default).f2)))))))], []⟩ ?_ (Nat.zero_le _) ⟨hg.1, hg.2.1, hg.2.2.1, hg.2.2.2⟩ ?_
        · kernel_rfl
        refine AAny.keepTo [0, 1, 5, 25] 0 ⟨[(0, .tv (fzL 3 c48 v1)), (1, .tv (fzL 3 c48 v2)), (5, .tv (.int .i64 v3)), (25, .tv (.bool (!((((v1.getD v3.toNat default).f0) == ((v2.getD v3.toNat default).f0)) && ((((v1.getD v3.toNat default).f1) == ((v2.getD v3.toNat default).f1)) && (((v1.getD v3.toNat default).f2) == ((v2.getD v3.toNat default).f2)))))))], []⟩ _ ?_ rfl (Nat.zero_le _) (AAny.done (by kernel_rfl) ?_)
        · kernel_rfl
        refine AWp.cond rfl (fun hb => ?_) fun hb => ?_
        · replace h := of_true h hb
          refine AWp.keepTo [] 0 ⟨[], []⟩ ?_ (Nat.zero_le _) ?_
          · kernel_rfl
          refine AWp.seq ?_
          refine AWp.start [0] [] [] [4] 0 ⟨[(4, .tv (.bool false))], []⟩ rfl ?_ (Nat.zero_le _) trivial ?_
          · kernel_rfl
          refine AOps.nil ?_
          refine AWp.ret ?_
          cases h
          exact Or.inr ⟨_, rfl, by simp, rfl, rfl⟩
        · replace h := of_false h hb
          refine AWp.keepTo [0, 1, 5] 0 ⟨[(0, .tv (fzL 3 c48 v1)), (1, .tv (fzL 3 c48 v2)), (5, .tv (.int .i64 v3))], []⟩ ?_ (Nat.zero_le _) ?_
          · kernel_rfl
          refine AWp.skip ?_
          refine AWp.start [0, 1, 2] [] [] [0, 1, 5] 0 ⟨[(0, .tv (fzL 3 c48 v1)), (1, .tv (fzL 3 c48 v2)), (5, .tv (.int .i64 (w64 (v3 + (1 : Int)))))], []⟩ rfl ?_ (Nat.zero_le _) trivial ?_
          · kernel_rfl
          refine AOps.nil ?_
          cases h
          exact Or.inl ⟨_, rfl, rfl, rfl⟩
      · replace h := of_false h hb
        refine AWp.keepTo [] 0 ⟨[], []⟩ ?_ (Nat.zero_le _) ?_
        · kernel_rfl
        refine AWp.exit ?_
        cases h
        exact Or.inr ⟨_, rfl, by simp, rfl, rfl⟩
    · intro e σ hp
      rcases y with v4 | _
      · obtain ⟨rfl, rfl⟩ := hp
        cases h
        exact ⟨.inr rfl, rfl⟩
      · obtain ⟨rfl, rfl⟩ := hp
        refine AWp.seq ?_
        refine AWp.start [0] [] [] [4] 0 ⟨[(4, .tv (.bool true))], []⟩ rfl ?_ (Nat.zero_le _) trivial ?_
        · kernel_rfl
        refine AOps.nil ?_
        refine AWp.ret ?_
        cases h
        exact ⟨.inr rfl, rfl⟩

end Go.Sx.gen
