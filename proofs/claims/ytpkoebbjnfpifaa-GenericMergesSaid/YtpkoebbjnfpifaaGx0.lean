/- Printed by program (wip/gen): plain functions and their walks; no condition. -/
import Derived.Test.YtpkoebbjnfpifaaProg
import Derived.KernelRfl
import Derived.Test.YtpkoebbjnfpifaaSxC
namespace Go.Sx.gen
open Go Go.Sx Go.Proofs

structure T48 where
  f0 : Int
  f1 : Int
  f2 : Bool
  deriving Inhabited

def c48 (x : T48) : List TV := [.int .i64 x.f0, .int .i64 x.f1, .bool x.f2]

structure T31 where
  f0 : List UInt8
  f1 : List T48
  deriving Inhabited

def c31 (x : T31) : List TV := [.str x.f0, fzL 3 c48 x.f1]

noncomputable def ti3 : TI := ⟨Try.t3.desc, 1, 8, [(.int .i64 (0))], false⟩
theorem tiok3 : TIOk Try.prog 3 ti3 := ⟨by kernel_rfl, Try.t3, (.int .i64 (0)), by kernel_rfl, by kernel_rfl, by kernel_rfl, by kernel_rfl, by kernel_rfl, by kernel_rfl, by kernel_rfl, (fun _ => rfl), (fun h => Bool.noConfusion (show false = true from h))⟩
noncomputable def ti4 : TI := ⟨Try.t4.desc, 1, 1, [(.bool false)], false⟩
theorem tiok4 : TIOk Try.prog 4 ti4 := ⟨by kernel_rfl, Try.t4, (.bool false), by kernel_rfl, by kernel_rfl, by kernel_rfl, by kernel_rfl, by kernel_rfl, by kernel_rfl, by kernel_rfl, (fun _ => rfl), (fun h => Bool.noConfusion (show false = true from h))⟩
noncomputable def ti5 : TI := ⟨Try.t5.desc, 1, 1, [(.int .u8 (0))], false⟩
theorem tiok5 : TIOk Try.prog 5 ti5 := ⟨by kernel_rfl, Try.t5, (.int .u8 (0)), by kernel_rfl, by kernel_rfl, by kernel_rfl, by kernel_rfl, by kernel_rfl, by kernel_rfl, by kernel_rfl, (fun _ => rfl), (fun h => Bool.noConfusion (show false = true from h))⟩
noncomputable def ti9 : TI := ⟨Try.t9.desc, 1, 16, [(.string ⟨#[]⟩)], false⟩
theorem tiok9 : TIOk Try.prog 9 ti9 := ⟨by kernel_rfl, Try.t9, (.string ⟨#[]⟩), by kernel_rfl, by kernel_rfl, by kernel_rfl, by kernel_rfl, by kernel_rfl, by kernel_rfl, by kernel_rfl, (fun _ => rfl), (fun h => Bool.noConfusion (show false = true from h))⟩
noncomputable def ti22 : TI := ⟨Try.t22.desc, 1, 24, [(.slice none 0 0)], false⟩
theorem tiok22 : TIOk Try.prog 22 ti22 := ⟨by kernel_rfl, Try.t22, (.slice none 0 0), by kernel_rfl, by kernel_rfl, by kernel_rfl, by kernel_rfl, by kernel_rfl, by kernel_rfl, by kernel_rfl, (fun _ => rfl), (fun h => Bool.noConfusion (show false = true from h))⟩
noncomputable def ti23 : TI := ⟨Try.t23.desc, 1, 24, [(.slice none 0 0)], false⟩
theorem tiok23 : TIOk Try.prog 23 ti23 := ⟨by kernel_rfl, Try.t23, (.slice none 0 0), by kernel_rfl, by kernel_rfl, by kernel_rfl, by kernel_rfl, by kernel_rfl, by kernel_rfl, by kernel_rfl, (fun _ => rfl), (fun h => Bool.noConfusion (show false = true from h))⟩
noncomputable def ti26 : TI := ⟨Try.t3.desc, 1, 8, [(.int .i64 (0))], false⟩
theorem tiok26 : TIOk Try.prog 26 ti26 := ⟨by kernel_rfl, Try.t26, (.int .i64 (0)), by kernel_rfl, by kernel_rfl, by kernel_rfl, by kernel_rfl, by kernel_rfl, by kernel_rfl, by kernel_rfl, (fun _ => rfl), (fun h => Bool.noConfusion (show false = true from h))⟩
noncomputable def ti32 : TI := ⟨Try.t31.desc, 2, 40, [(.string ⟨#[]⟩), (.slice none 0 0)], false⟩
theorem tiok32 : TIOk Try.prog 32 ti32 := ⟨by kernel_rfl, Try.t32, (.agg #[(.string ⟨#[]⟩), (.slice none 0 0)]), by kernel_rfl, by kernel_rfl, by kernel_rfl, by kernel_rfl, by kernel_rfl, by kernel_rfl, by kernel_rfl, (fun h => Bool.noConfusion (show true = false from h)), (fun h => Bool.noConfusion (show false = true from h))⟩
noncomputable def ti49 : TI := ⟨Try.t48.desc, 3, 24, [(.int .i64 (0)), (.int .i64 (0)), (.bool false)], true⟩
theorem tiok49 : TIOk Try.prog 49 ti49 := ⟨by kernel_rfl, Try.t49, (.agg #[(.int .i64 (0)), (.int .i64 (0)), (.bool false)]), by kernel_rfl, by kernel_rfl, by kernel_rfl, by kernel_rfl, by kernel_rfl, by kernel_rfl, by kernel_rfl, (fun h => Bool.noConfusion (show true = false from h)), (fun _ => eq_flat (fs := (match Try.t48.desc with | .struct fs => fs | _ => #[])) (zs := ti49.zero.map cTV) (by kernel_rfl) (by kernel_rfl) (by kernel_rfl) ⟨by decide, rfl, leafInt .i64 (by kernel_rfl), by decide, rfl, leafInt .i64 (by kernel_rfl), by decide, rfl, leafBool (by kernel_rfl), trivial⟩)⟩
noncomputable def ti53 : TI := ⟨Try.t53.desc, 1, 24, [(.slice none 0 0)], false⟩
theorem tiok53 : TIOk Try.prog 53 ti53 := ⟨by kernel_rfl, Try.t53, (.slice none 0 0), by kernel_rfl, by kernel_rfl, by kernel_rfl, by kernel_rfl, by kernel_rfl, by kernel_rfl, by kernel_rfl, (fun _ => rfl), (fun h => Bool.noConfusion (show false = true from h))⟩
noncomputable def ti67 : TI := ⟨Try.t67.desc, 1, 24, [(.slice none 0 0)], false⟩
theorem tiok67 : TIOk Try.prog 67 ti67 := ⟨by kernel_rfl, Try.t67, (.slice none 0 0), by kernel_rfl, by kernel_rfl, by kernel_rfl, by kernel_rfl, by kernel_rfl, by kernel_rfl, by kernel_rfl, (fun _ => rfl), (fun h => Bool.noConfusion (show false = true from h))⟩
noncomputable def ti71 : TI := ⟨Try.t71.desc, 1, 24, [(.slice none 0 0)], false⟩
theorem tiok71 : TIOk Try.prog 71 ti71 := ⟨by kernel_rfl, Try.t71, (.slice none 0 0), by kernel_rfl, by kernel_rfl, by kernel_rfl, by kernel_rfl, by kernel_rfl, by kernel_rfl, by kernel_rfl, (fun _ => rfl), (fun h => Bool.noConfusion (show false = true from h))⟩
noncomputable def TT : Tab := [(3, ti3), (4, ti4), (5, ti5), (9, ti9), (22, ti22), (23, ti23), (26, ti26), (32, ti32), (49, ti49), (53, ti53), (67, ti67), (71, ti71)]
theorem hT : TabOk Try.prog TT := TabOk.cons tiok3 (TabOk.cons tiok4 (TabOk.cons tiok5 (TabOk.cons tiok9 (TabOk.cons tiok22 (TabOk.cons tiok23 (TabOk.cons tiok26 (TabOk.cons tiok32 (TabOk.cons tiok49 (TabOk.cons tiok53 (TabOk.cons tiok67 (TabOk.cons tiok71 (TabOk.nil _))))))))))))
noncomputable def FF (n h0 : Nat) : Cfg := ⟨Try.prog, TT, n, h0, hT⟩
theorem FFm : Try.prog.follows .mixedOrders = true := by kernel_rfl

noncomputable def f10_b1 (v1 : List T31) (v2 : Int) : Option (Int ⊕ Out Bool Unit) :=
  cond (decide (v2 < (v1.length : Int))) (if (0 : Int) ≤ v2 ∧ v2 < (v1.length : Int) then (cond (decide ((((v1.getD v2.toNat default).f1).length : Int) > (100 : Int))) (some true) (if (0 : Int) ≤ v2 ∧ v2 < (v1.length : Int) then some (decide ((((v1.getD v2.toNat default).f0).length : Int) > (100 : Int))) else none)).bind fun v3 => cond v3 (some (.inr (.ret true))) (some (.inl (w64 (v2 + (1 : Int))))) else none) (some (.inr (.go ())))

noncomputable def f10 (v1 : List T31) : Option Bool :=
  (iter (fun s => f10_b1 v1 s) (0 : Int)).bind fun y => match y with | .ret v4 => some v4 | .go _ => some (decide ((v1.length : Int) > (100 : Int)))

theorem f10_ok (v1 : List T31) {r : Bool} (h : f10 v1 = some r) : ACall Try.prog 10 [.tv (fzL 2 c31 v1)] [] (.tv (.bool r)) [] := by
  refine ACall.of1 (FF 29 0) Try.func10 rfl Try.ntmps10 Try.results10 (Nat.le_of_ble_eq_true rfl) rfl rfl ?_
  refine AWp.seq ?_
  refine AWp.start [0] [] [] [0] 0 ⟨[(0, .tv (fzL 2 c31 v1))], []⟩ rfl ?_ (Nat.zero_le _) trivial ?_
  · kernel_rfl
  refine AOps.nil ?_
  refine AWp.seq ?_
  refine AWp.seq ?_
  refine AWp.start [0] [] [] [0, 3] 0 ⟨[(0, .tv (fzL 2 c31 v1)), (3, .tv (.int .i64 (0 : Int)))], []⟩ rfl ?_ (Nat.zero_le _) trivial ?_
  · kernel_rfl
  refine AOps.nil ?_
  refine AWp.block ?_
  obtain ⟨y, hy, h⟩ := of_bind h
  refine AWp.mono (AWp.loop (S := Int) (Y := Out Bool Unit) (fun s => ⟨[(0, .tv (fzL 2 c31 v1)), (3, .tv (.int .i64 s))], []⟩) (fun s => f10_b1 v1 s) (fun y e σ => match y with | .ret r => e = .ret ∧ σ = ⟨[(2, .tv (.bool r))], []⟩ | .go v => e = .exit 0 ∧ σ = ⟨[(0, .tv (fzL 2 c31 v1))], []⟩) ?_ hy) ?_
  · rintro v2 o h
    refine AWp.seq ?_
    refine AWp.seq ?_
    refine AWp.start [0, 1, 2, 3] [] [] [0, 3, 7] 0 ⟨[(0, .tv (fzL 2 c31 v1)), (3, .tv (.int .i64 v2)), (7, .tv (.bool (decide (v2 < (v1.length : Int)))))], []⟩ rfl ?_ (Nat.zero_le _) trivial ?_
    · kernel_rfl
    refine AOps.nil ?_
    refine AWp.cond rfl (fun hb => ?_) fun hb => ?_
    · replace h := of_true h hb
      refine AWp.keepTo [0, 3] 0 ⟨[(0, .tv (fzL 2 c31 v1)), (3, .tv (.int .i64 v2))], []⟩ ?_ (Nat.zero_le _) ?_
      · kernel_rfl
      refine AWp.skip ?_
      refine AWp.seq ?_
      refine AWp.block ?_
      refine AWp.seq ?_
      obtain ⟨hg, h⟩ := of_guard h
      refine AWp.start [0, 1, 2, 3, 4, 5, 6, 7] [8, 9, 10, 11, 12, 13, 14, 15] [(0 : Int) ≤ v2, v2 < (v1.length : Int)] [0, 3, 17] 0 ⟨[(0, .tv (fzL 2 c31 v1)), (3, .tv (.int .i64 v2)), (17, .tv (.bool (decide ((((v1.getD v2.toNat default).f1).length : Int) > (100 : Int)))))], []⟩ rfl ?_ (Nat.zero_le _) ⟨hg.1, hg.2⟩ ?_
      · kernel_rfl
      obtain ⟨v3, hc8, h⟩ := of_bind h
      refine AOps.cut [8, 9, 10, 11, 12, 13, 14, 15] [] (fun σ => σ = ⟨[(0, .tv (fzL 2 c31 v1)), (3, .tv (.int .i64 v2)), (25, .tv (.bool v3))], []⟩) ?_ fun σ' hJ => ?_
      · refine AOps.split (fun b => ⟨[(0, .tv (fzL 2 c31 v1)), (3, .tv (.int .i64 v2)), (17, .tv (.bool b))], []⟩) _ (fun hb => ?_) fun hb => ?_
        · replace hc8 := of_true hc8 hb
          refine AOps.go [8, 9, 10, 11, 12, 13, 14, 15] [] [] [0, 3, 25] 0 ⟨[(0, .tv (fzL 2 c31 v1)), (3, .tv (.int .i64 v2)), (25, .tv (.bool true))], []⟩ ?_ (Nat.zero_le _) trivial ?_
          · kernel_rfl
          cases hc8
          exact AOps.nil rfl
        · replace hc8 := of_false hc8 hb
          obtain ⟨hg, hc8⟩ := of_guard hc8
          refine AOps.go [8, 9, 10, 11, 12, 13, 14, 15] [] [(0 : Int) ≤ v2, v2 < (v1.length : Int)] [0, 3, 25] 0 ⟨[(0, .tv (fzL 2 c31 v1)), (3, .tv (.int .i64 v2)), (25, .tv (.bool (decide ((((v1.getD v2.toNat default).f0).length : Int) > (100 : Int)))))], []⟩ ?_ (Nat.zero_le _) ⟨hg.1, hg.2⟩ ?_
          · kernel_rfl
          cases hc8
          exact AOps.nil rfl
      subst hJ
      refine AOps.nil ?_
      refine AWp.cond rfl (fun hb => ?_) fun hb => ?_
      · replace h := of_true h hb
        refine AWp.keepTo [] 0 ⟨[], []⟩ ?_ (Nat.zero_le _) ?_
        · kernel_rfl
        refine AWp.seq ?_
        refine AWp.start [0] [] [] [2] 0 ⟨[(2, .tv (.bool true))], []⟩ rfl ?_ (Nat.zero_le _) trivial ?_
        · kernel_rfl
        refine AOps.nil ?_
        refine AWp.ret ?_
        cases h
        exact Or.inr ⟨_, rfl, by simp, rfl, rfl⟩
      · replace h := of_false h hb
        refine AWp.keepTo [0, 3] 0 ⟨[(0, .tv (fzL 2 c31 v1)), (3, .tv (.int .i64 v2))], []⟩ ?_ (Nat.zero_le _) ?_
        · kernel_rfl
        refine AWp.skip ?_
        refine AWp.start [0, 1, 2] [] [] [0, 3] 0 ⟨[(0, .tv (fzL 2 c31 v1)), (3, .tv (.int .i64 (w64 (v2 + (1 : Int)))))], []⟩ rfl ?_ (Nat.zero_le _) trivial ?_
        · kernel_rfl
        refine AOps.nil ?_
        cases h
        exact Or.inl ⟨_, rfl, rfl, rfl⟩
    · replace h := of_false h hb
      refine AWp.keepTo [0] 0 ⟨[(0, .tv (fzL 2 c31 v1))], []⟩ ?_ (Nat.zero_le _) ?_
      · kernel_rfl
      refine AWp.exit ?_
      cases h
      exact Or.inr ⟨_, rfl, by simp, rfl, rfl⟩
  · intro e σ hp
    rcases y with v4 | _
    · obtain ⟨rfl, rfl⟩ := hp
      cases h
      exact ⟨.inr rfl, rfl⟩
    · obtain ⟨rfl, rfl⟩ := hp
      refine AWp.seq ?_
      refine AWp.start [0, 1, 2, 3] [] [] [2] 0 ⟨[(2, .tv (.bool (decide ((v1.length : Int) > (100 : Int)))))], []⟩ rfl ?_ (Nat.zero_le _) trivial ?_
      · kernel_rfl
      refine AOps.nil ?_
      refine AWp.ret ?_
      cases h
      exact ⟨.inr rfl, rfl⟩

noncomputable def f57 (v1 : Int) : Option Bool :=
  (cond (decide (v1 ≥ (97 : Int))) (some (decide (v1 ≤ (122 : Int)))) (some false)).bind fun v2 => (cond v2 (some true) ((cond (decide (v1 ≥ (65 : Int))) (some (decide (v1 ≤ (90 : Int)))) (some false)).bind fun v3 => some v3)).bind fun v4 => some v4

theorem f57_ok (v1 : Int) {r : Bool} (h : f57 v1 = some r) : ACall Try.prog 57 [.tv (.int .u8 v1)] [] (.tv (.bool r)) [] := by
  refine ACall.of1 (FF 17 0) Try.func57 rfl Try.ntmps57 Try.results57 (Nat.le_of_ble_eq_true rfl) rfl rfl ?_
  refine AWp.seq ?_
  refine AWp.start [0] [] [] [0] 0 ⟨[(0, .tv (.int .u8 v1))], []⟩ rfl ?_ (Nat.zero_le _) trivial ?_
  · kernel_rfl
  refine AOps.nil ?_
  refine AWp.seq ?_
  refine AWp.start [0, 1, 2] [3, 4, 5, 6, 7, 8, 9, 10, 11, 12, 13, 14] [] [0, 5] 0 ⟨[(0, .tv (.int .u8 v1)), (5, .tv (.bool (decide (v1 ≥ (97 : Int)))))], []⟩ rfl ?_ (Nat.zero_le _) trivial ?_
  · kernel_rfl
  obtain ⟨v2, hc3, h⟩ := of_bind h
  refine AOps.cut [3, 4, 5] [6, 7, 8, 9, 10, 11, 12, 13, 14] (fun σ => σ = ⟨[(0, .tv (.int .u8 v1)), (8, .tv (.bool v2))], []⟩) ?_ fun σ' hJ => ?_
  · refine AOps.split (fun b => ⟨[(0, .tv (.int .u8 v1)), (5, .tv (.bool b))], []⟩) _ (fun hb => ?_) fun hb => ?_
    · replace hc3 := of_true hc3 hb
      refine AOps.go [3, 4, 5] [] [] [0, 8] 0 ⟨[(0, .tv (.int .u8 v1)), (8, .tv (.bool (decide (v1 ≤ (122 : Int)))))], []⟩ ?_ (Nat.zero_le _) trivial ?_
      · kernel_rfl
      cases hc3
      exact AOps.nil rfl
    · replace hc3 := of_false hc3 hb
      refine AOps.go [3, 4, 5] [] [] [0, 8] 0 ⟨[(0, .tv (.int .u8 v1)), (8, .tv (.bool false))], []⟩ ?_ (Nat.zero_le _) trivial ?_
      · kernel_rfl
      cases hc3
      exact AOps.nil rfl
  subst hJ
  refine AOps.go [6] [7, 8, 9, 10, 11, 12, 13, 14] [] [0, 9] 0 ⟨[(0, .tv (.int .u8 v1)), (9, .tv (.bool v2))], []⟩ ?_ (Nat.zero_le _) trivial ?_
  · kernel_rfl
  obtain ⟨v4, hc7, h⟩ := of_bind h
  refine AOps.cut [7, 8, 9, 10, 11, 12, 13] [14] (fun σ => σ = ⟨[(16, .tv (.bool v4))], []⟩) ?_ fun σ' hJ => ?_
  · refine AOps.split (fun b => ⟨[(0, .tv (.int .u8 v1)), (9, .tv (.bool b))], []⟩) _ (fun hb => ?_) fun hb => ?_
    · replace hc7 := of_true hc7 hb
      refine AOps.go [7, 8, 9, 10, 11, 12, 13] [] [] [16] 0 ⟨[(16, .tv (.bool true))], []⟩ ?_ (Nat.zero_le _) trivial ?_
      · kernel_rfl
      cases hc7
      exact AOps.nil rfl
    · replace hc7 := of_false hc7 hb
      refine AOps.go [7, 8, 9] [10, 11, 12, 13] [] [0, 9, 12] 0 ⟨[(0, .tv (.int .u8 v1)), (9, .tv (.bool false)), (12, .tv (.bool (decide (v1 ≥ (65 : Int)))))], []⟩ ?_ (Nat.zero_le _) trivial ?_
      · kernel_rfl
      obtain ⟨v3, hc10, hc7⟩ := of_bind hc7
      refine AOps.cut [10, 11, 12] [13] (fun σ => σ = ⟨[(9, .tv (.bool false)), (15, .tv (.bool v3))], []⟩) ?_ fun σ' hJ => ?_
      · refine AOps.split (fun b => ⟨[(0, .tv (.int .u8 v1)), (9, .tv (.bool false)), (12, .tv (.bool b))], []⟩) _ (fun hb => ?_) fun hb => ?_
        · replace hc10 := of_true hc10 hb
          refine AOps.go [10, 11, 12] [] [] [9, 15] 0 ⟨[(9, .tv (.bool false)), (15, .tv (.bool (decide (v1 ≤ (90 : Int)))))], []⟩ ?_ (Nat.zero_le _) trivial ?_
          · kernel_rfl
          cases hc10
          exact AOps.nil rfl
        · replace hc10 := of_false hc10 hb
          refine AOps.go [10, 11, 12] [] [] [9, 15] 0 ⟨[(9, .tv (.bool false)), (15, .tv (.bool false))], []⟩ ?_ (Nat.zero_le _) trivial ?_
          · kernel_rfl
          cases hc10
          exact AOps.nil rfl
      subst hJ
      refine AOps.go [13] [] [] [16] 0 ⟨[(16, .tv (.bool v3))], []⟩ ?_ (Nat.zero_le _) trivial ?_
      · kernel_rfl
      cases hc7
      exact AOps.nil rfl
  subst hJ
  refine AOps.go [14] [] [] [2] 0 ⟨[(2, .tv (.bool v4))], []⟩ ?_ (Nat.zero_le _) trivial ?_
  · kernel_rfl
  refine AOps.nil ?_
  refine AWp.ret ?_
  cases h
  exact ⟨.inr rfl, rfl⟩

noncomputable def f67 (v1 : Int) : Option Bool :=
  (cond (decide (v1 ≥ (48 : Int))) (some (decide (v1 ≤ (57 : Int)))) (some false)).bind fun v2 => some v2

theorem f67_ok (v1 : Int) {r : Bool} (h : f67 v1 = some r) : ACall Try.prog 67 [.tv (.int .u8 v1)] [] (.tv (.bool r)) [] := by
  refine ACall.of1 (FF 9 0) Try.func67 rfl Try.ntmps67 Try.results67 (Nat.le_of_ble_eq_true rfl) rfl rfl ?_
  refine AWp.seq ?_
  refine AWp.start [0] [] [] [0] 0 ⟨[(0, .tv (.int .u8 v1))], []⟩ rfl ?_ (Nat.zero_le _) trivial ?_
  · kernel_rfl
  refine AOps.nil ?_
  refine AWp.seq ?_
  refine AWp.start [0, 1, 2] [3, 4, 5, 6] [] [0, 5] 0 ⟨[(0, .tv (.int .u8 v1)), (5, .tv (.bool (decide (v1 ≥ (48 : Int)))))], []⟩ rfl ?_ (Nat.zero_le _) trivial ?_
  · kernel_rfl
  obtain ⟨v2, hc3, h⟩ := of_bind h
  refine AOps.cut [3, 4, 5] [6] (fun σ => σ = ⟨[(8, .tv (.bool v2))], []⟩) ?_ fun σ' hJ => ?_
  · refine AOps.split (fun b => ⟨[(0, .tv (.int .u8 v1)), (5, .tv (.bool b))], []⟩) _ (fun hb => ?_) fun hb => ?_
    · replace hc3 := of_true hc3 hb
      refine AOps.go [3, 4, 5] [] [] [8] 0 ⟨[(8, .tv (.bool (decide (v1 ≤ (57 : Int)))))], []⟩ ?_ (Nat.zero_le _) trivial ?_
      · kernel_rfl
      cases hc3
      exact AOps.nil rfl
    · replace hc3 := of_false hc3 hb
      refine AOps.go [3, 4, 5] [] [] [8] 0 ⟨[(8, .tv (.bool false))], []⟩ ?_ (Nat.zero_le _) trivial ?_
      · kernel_rfl
      cases hc3
      exact AOps.nil rfl
  subst hJ
  refine AOps.go [6] [] [] [2] 0 ⟨[(2, .tv (.bool v2))], []⟩ ?_ (Nat.zero_le _) trivial ?_
  · kernel_rfl
  refine AOps.nil ?_
  refine AWp.ret ?_
  cases h
  exact ⟨.inr rfl, rfl⟩

noncomputable def f59 (v1 : Int) : Option Bool :=
  (f57 v1).bind fun v2 => (cond v2 (some true) ((f67 v1).bind fun v3 => some v3)).bind fun v4 => (cond v4 (some true) (some (v1 == (95 : Int)))).bind fun v5 => some v5

theorem f59_ok (v1 : Int) {r : Bool} (h : f59 v1 = some r) : ACall Try.prog 59 [.tv (.int .u8 v1)] [] (.tv (.bool r)) [] := by
  refine ACall.of1 (FF 13 0) Try.func59 rfl Try.ntmps59 Try.results59 (Nat.le_of_ble_eq_true rfl) rfl rfl ?_
  refine AWp.seq ?_
  refine AWp.start [0] [] [] [0] 0 ⟨[(0, .tv (.int .u8 v1))], []⟩ rfl ?_ (Nat.zero_le _) trivial ?_
  · kernel_rfl
  refine AOps.nil ?_
  refine AWp.seq ?_
  refine AWp.start [0] [1, 2, 3, 4, 5, 6, 7, 8, 9, 10] [] [0, 3] 0 ⟨[(0, .tv (.int .u8 v1)), (3, .tv (.int .u8 v1))], []⟩ rfl ?_ (Nat.zero_le _) trivial ?_
  · kernel_rfl
  obtain ⟨v2, hv2, h⟩ := of_bind h
  refine AOps.cons (AOne.callP (F := (FF 13 0)) _ rfl rfl rfl _ rfl rfl _ _ rfl Try.call57 [.tv (.int .u8 v1)] rfl rfl (f57_ok v1 hv2) rfl) ?_
  refine AOps.go [2] [3, 4, 5, 6, 7, 8, 9, 10] [] [0, 5] 0 ⟨[(0, .tv (.int .u8 v1)), (5, .tv (.bool v2))], []⟩ ?_ (Nat.zero_le _) trivial ?_
  · kernel_rfl
  obtain ⟨v4, hc3, h⟩ := of_bind h
  refine AOps.cut [3, 4, 5] [6, 7, 8, 9, 10] (fun σ => σ = ⟨[(0, .tv (.int .u8 v1)), (8, .tv (.bool v4))], []⟩) ?_ fun σ' hJ => ?_
  · refine AOps.split (fun b => ⟨[(0, .tv (.int .u8 v1)), (5, .tv (.bool b))], []⟩) _ (fun hb => ?_) fun hb => ?_
    · replace hc3 := of_true hc3 hb
      refine AOps.go [3, 4, 5] [] [] [0, 8] 0 ⟨[(0, .tv (.int .u8 v1)), (8, .tv (.bool true))], []⟩ ?_ (Nat.zero_le _) trivial ?_
      · kernel_rfl
      cases hc3
      exact AOps.nil rfl
    · replace hc3 := of_false hc3 hb
      refine AOps.go [3] [4, 5] [] [0, 5, 6] 0 ⟨[(0, .tv (.int .u8 v1)), (5, .tv (.bool false)), (6, .tv (.int .u8 v1))], []⟩ ?_ (Nat.zero_le _) trivial ?_
      · kernel_rfl
      obtain ⟨v3, hv3, hc3⟩ := of_bind hc3
      refine AOps.cons (AOne.callP (F := (FF 13 0)) _ rfl rfl rfl _ rfl rfl _ _ rfl Try.call67 [.tv (.int .u8 v1)] rfl rfl (f67_ok v1 hv3) rfl) ?_
      refine AOps.go [5] [] [] [0, 8] 0 ⟨[(0, .tv (.int .u8 v1)), (8, .tv (.bool v3))], []⟩ ?_ (Nat.zero_le _) trivial ?_
      · kernel_rfl
      cases hc3
      exact AOps.nil rfl
  subst hJ
  refine AOps.go [6] [7, 8, 9, 10] [] [0, 9] 0 ⟨[(0, .tv (.int .u8 v1)), (9, .tv (.bool v4))], []⟩ ?_ (Nat.zero_le _) trivial ?_
  · kernel_rfl
  obtain ⟨v5, hc7, h⟩ := of_bind h
  refine AOps.cut [7, 8, 9] [10] (fun σ => σ = ⟨[(12, .tv (.bool v5))], []⟩) ?_ fun σ' hJ => ?_
  · refine AOps.split (fun b => ⟨[(0, .tv (.int .u8 v1)), (9, .tv (.bool b))], []⟩) _ (fun hb => ?_) fun hb => ?_
    · replace hc7 := of_true hc7 hb
      refine AOps.go [7, 8, 9] [] [] [12] 0 ⟨[(12, .tv (.bool true))], []⟩ ?_ (Nat.zero_le _) trivial ?_
      · kernel_rfl
      cases hc7
      exact AOps.nil rfl
    · replace hc7 := of_false hc7 hb
      refine AOps.go [7, 8, 9] [] [] [12] 0 ⟨[(12, .tv (.bool (v1 == (95 : Int))))], []⟩ ?_ (Nat.zero_le _) trivial ?_
      · kernel_rfl
      cases hc7
      exact AOps.nil rfl
  subst hJ
  refine AOps.go [10] [] [] [2] 0 ⟨[(2, .tv (.bool v5))], []⟩ ?_ (Nat.zero_le _) trivial ?_
  · kernel_rfl
  refine AOps.nil ?_
  refine AWp.ret ?_
  cases h
  exact ⟨.inr rfl, rfl⟩

noncomputable def f58_59_b1 (v1 : List UInt8) (v2 : Int) : Option (Int ⊕ Out Int Int) :=
  (cond (decide (v2 < (v1.length : Int))) (if (0 : Int) ≤ v2 ∧ v2 < (v1.length : Int) then (f59 (((v1.getD v2.toNat 0).toNat : Nat) : Int)).bind fun v4 => some v4 else none) (some false)).bind fun v5 => cond v5 (some (.inl (w64 (v2 + (1 : Int))))) (some (.inr (.go v2)))

noncomputable def f58_59 (v1 : List UInt8) : Option Int :=
  (iter (fun s => f58_59_b1 v1 s) (0 : Int)).bind fun y => match y with | .ret v6 => some v6 | .go v3 => some v3

theorem f58_59_ok (v1 : List UInt8) {r : Int} (h : f58_59 v1 = some r) : ACall Try.prog 58 [.tv (.str v1), .fn 59 []] [] (.tv (.int .i64 r)) [] := by
  refine ACall.of1 (FF 20 0) Try.func58 rfl Try.ntmps58 Try.results58 (Nat.le_of_ble_eq_true rfl) rfl rfl ?_
  refine AWp.seq ?_
  refine AWp.start [0] [] [] [0, 1] 0 ⟨[(0, .tv (.str v1)), (1, .fn 59 [])], []⟩ rfl ?_ (Nat.zero_le _) trivial ?_
  · kernel_rfl
  refine AOps.nil ?_
  refine AWp.seq ?_
  refine AWp.start [0] [] [] [0, 1, 5] 0 ⟨[(0, .tv (.str v1)), (1, .fn 59 []), (5, .tv (.int .i64 (0 : Int)))], []⟩ rfl ?_ (Nat.zero_le _) trivial ?_
  · kernel_rfl
  refine AOps.nil ?_
  refine AWp.seq ?_
  refine AWp.block ?_
  obtain ⟨y, hy, h⟩ := of_bind h
  refine AWp.mono (AWp.loop (S := Int) (Y := Out Int Int) (fun s => ⟨[(0, .tv (.str v1)), (1, .fn 59 []), (5, .tv (.int .i64 s))], []⟩) (fun s => f58_59_b1 v1 s) (fun y e σ => match y with | .ret r => e = .ret ∧ σ = ⟨[(4, .tv (.int .i64 r))], []⟩ | .go v => e = .exit 0 ∧ σ = ⟨[(5, .tv (.int .i64 v))], []⟩) ?_ hy) ?_
  · rintro v2 o h
    refine AWp.seq ?_
    refine AWp.seq ?_
    refine AWp.start [0, 1, 2, 3, 4] [5, 6, 7, 8, 9, 10] [] [0, 1, 5, 10] 0 ⟨[(0, .tv (.str v1)), (1, .fn 59 []), (5, .tv (.int .i64 v2)), (10, .tv (.bool (decide (v2 < (v1.length : Int)))))], []⟩ rfl ?_ (Nat.zero_le _) trivial ?_
    · kernel_rfl
    obtain ⟨v5, hc5, h⟩ := of_bind h
    refine AOps.cut [5, 6, 7, 8, 9, 10] [] (fun σ => σ = ⟨[(0, .tv (.str v1)), (1, .fn 59 []), (5, .tv (.int .i64 v2)), (16, .tv (.bool v5))], []⟩) ?_ fun σ' hJ => ?_
    · refine AOps.split (fun b => ⟨[(0, .tv (.str v1)), (1, .fn 59 []), (5, .tv (.int .i64 v2)), (10, .tv (.bool b))], []⟩) _ (fun hb => ?_) fun hb => ?_
      · replace hc5 := of_true hc5 hb
        obtain ⟨hg, hc5⟩ := of_guard hc5
        refine AOps.go [5, 6, 7, 8] [9, 10] [(0 : Int) ≤ v2, v2 < (v1.length : Int)] [0, 1, 5, 10, 11, 14] 0 ⟨[(0, .tv (.str v1)), (1, .fn 59 []), (5, .tv (.int .i64 v2)), (10, .tv (.bool true)), (11, .fn 59 []), (14, .tv (.int .u8 (((v1.getD v2.toNat 0).toNat : Nat) : Int)))], []⟩ ?_ (Nat.zero_le _) ⟨hg.1, hg.2⟩ ?_
        · kernel_rfl
        obtain ⟨v4, hv4, hc5⟩ := of_bind hc5
        refine AOps.cons (AOne.callP (F := (FF 20 0)) _ rfl rfl rfl _ rfl rfl _ _ rfl Try.call59 [.tv (.int .u8 (((v1.getD v2.toNat 0).toNat : Nat) : Int))] rfl rfl (f59_ok (((v1.getD v2.toNat 0).toNat : Nat) : Int) hv4) rfl) ?_
        refine AOps.go [10] [] [] [0, 1, 5, 16] 0 ⟨[(0, .tv (.str v1)), (1, .fn 59 []), (5, .tv (.int .i64 v2)), (16, .tv (.bool v4))], []⟩ ?_ (Nat.zero_le _) trivial ?_
        · kernel_rfl
        cases hc5
        exact AOps.nil rfl
      · replace hc5 := of_false hc5 hb
        refine AOps.go [5, 6, 7, 8, 9, 10] [] [] [0, 1, 5, 16] 0 ⟨[(0, .tv (.str v1)), (1, .fn 59 []), (5, .tv (.int .i64 v2)), (16, .tv (.bool false))], []⟩ ?_ (Nat.zero_le _) trivial ?_
        · kernel_rfl
        cases hc5
        exact AOps.nil rfl
    subst hJ
    refine AOps.nil ?_
    refine AWp.cond rfl (fun hb => ?_) fun hb => ?_
    · replace h := of_true h hb
      refine AWp.keepTo [0, 1, 5] 0 ⟨[(0, .tv (.str v1)), (1, .fn 59 []), (5, .tv (.int .i64 v2))], []⟩ ?_ (Nat.zero_le _) ?_
      · kernel_rfl
      refine AWp.skip ?_
      refine AWp.block ?_
      refine AWp.start [0, 1, 2] [] [] [0, 1, 5] 0 ⟨[(0, .tv (.str v1)), (1, .fn 59 []), (5, .tv (.int .i64 (w64 (v2 + (1 : Int)))))], []⟩ rfl ?_ (Nat.zero_le _) trivial ?_
      · kernel_rfl
      refine AOps.nil ?_
      cases h
      exact Or.inl ⟨_, rfl, rfl, rfl⟩
    · replace h := of_false h hb
      refine AWp.keepTo [5] 0 ⟨[(5, .tv (.int .i64 v2))], []⟩ ?_ (Nat.zero_le _) ?_
      · kernel_rfl
      refine AWp.exit ?_
      cases h
      exact Or.inr ⟨_, rfl, by simp, rfl, rfl⟩
  · intro e σ hp
    rcases y with v6 | v3
    · obtain ⟨rfl, rfl⟩ := hp
      cases h
      exact ⟨.inr rfl, rfl⟩
    · obtain ⟨rfl, rfl⟩ := hp
      refine AWp.seq ?_
      refine AWp.start [0, 1] [] [] [4] 0 ⟨[(4, .tv (.int .i64 v3))], []⟩ rfl ?_ (Nat.zero_le _) trivial ?_
      · kernel_rfl
      refine AOps.nil ?_
      refine AWp.ret ?_
      cases h
      exact ⟨.inr rfl, rfl⟩

noncomputable def f60_j1 (v3 : Int) (v5 : List Int) : Option (((List Int) × Int) ⊕ Out (List UInt8) (List Int)) :=
  some (.inl (v5, w64 (v3 + (1 : Int))))

noncomputable def f60_b2 (v1 : List UInt8) (v2 : List Int) (v3 : Int) : Option (((List Int) × Int) ⊕ Out (List UInt8) (List Int)) :=
  cond (decide (v3 < ((v1.map (fun b => (b.toNat : Int))).length : Int))) (if (0 : Int) ≤ v3 ∧ v3 < (v2.length : Int) then (cond (decide (v2.getD v3.toNat default ≥ (65 : Int))) (some (decide (v2.getD v3.toNat default ≤ (90 : Int)))) (some false)).bind fun v6 => cond v6 (if (0 : Int) ≤ v3 ∧ v3 < (v2.length : Int) then f60_j1 v3 (v2.set v3.toNat (IntKind.wrap .u8 ((IntKind.wrap .u8 ((v2.getD v3.toNat default) - (65 : Int))) + (97 : Int)))) else none) (f60_j1 v3 v2) else none) (some (.inr (.go v2)))

noncomputable def f60 (v1 : List UInt8) : Option (List UInt8) :=
  if (v1.length : Int) ≤ 9223372036854775807 then (iter (fun s => f60_b2 v1 s.1 s.2) (v1.map (fun b => (b.toNat : Int)), (0 : Int))).bind fun y => match y with | .ret v7 => some v7 | .go v4 => some (v4.map (fun n => UInt8.ofNat n.toNat)) else none

theorem f60_ok (v1 : List UInt8) {r : (List UInt8)} (h : f60 v1 = some r) : ACall Try.prog 60 [.tv (.str v1)] [] (.tv (.str r)) [] := by
  refine ACall.of1 (FF 30 0) Try.func60 rfl Try.ntmps60 Try.results60 (Nat.le_of_ble_eq_true rfl) rfl rfl ?_
  refine AWp.seq ?_
  refine AWp.start [0] [] [] [0] 0 ⟨[(0, .tv (.str v1))], []⟩ rfl ?_ (Nat.zero_le _) trivial ?_
  · kernel_rfl
  refine AOps.nil ?_
  refine AWp.seq ?_
  obtain ⟨hg, h⟩ := of_guard h
  refine AWp.start [0, 1] [2] [(v1.length : Int) ≤ 9223372036854775807] [7] 0 ⟨[(7, .tv (.own 1 5 v1.length (fun i => [.int .u8 (((v1.getD i 0).toNat : Nat) : Int)])))], []⟩ rfl ?_ (Nat.zero_le _) hg ?_
  · kernel_rfl
  refine AOps.extL 7 (cInt .u8) (v1.map (fun b => (b.toNat : Int))) rfl (by simp) (bytes_at _) ?_
  refine AOps.go [2] [] [] [3] 0 ⟨[(3, .tv (ownL 1 5 (cInt .u8) (v1.map (fun b => (b.toNat : Int)))))], []⟩ ?_ (Nat.zero_le _) trivial ?_
  · kernel_rfl
  refine AOps.nil ?_
  refine AWp.seq ?_
  refine AWp.seq ?_
  refine AWp.start [0, 1, 2] [] [] [3, 8, 9, 10] 0 ⟨[(3, .tv (ownL 1 5 (cInt .u8) (v1.map (fun b => (b.toNat : Int))))), (8, .al (.slot 3 0, [])), (9, .tv (.int .i64 ((v1.map (fun b => (b.toNat : Int))).length : Int))), (10, .tv (.int .i64 (0 : Int)))], []⟩ rfl ?_ (Nat.zero_le _) trivial ?_
  · kernel_rfl
  refine AOps.nil ?_
  refine AWp.block ?_
  obtain ⟨y, hy, h⟩ := of_bind h
  refine AWp.mono (AWp.loop (S := (List Int) × Int) (Y := Out (List UInt8) (List Int)) (fun s => ⟨[(3, .tv (ownL 1 5 (cInt .u8) s.1)), (8, .al (.slot 3 0, [])), (9, .tv (.int .i64 ((v1.map (fun b => (b.toNat : Int))).length : Int))), (10, .tv (.int .i64 s.2))], []⟩) (fun s => f60_b2 v1 s.1 s.2) (fun y e σ => match y with | .ret r => e = .ret ∧ σ = ⟨[(2, .tv (.str r))], []⟩ | .go v => e = .exit 0 ∧ σ = ⟨[(3, .tv (ownL 1 5 (cInt .u8) v))], []⟩) ?_ hy) ?_
  · rintro ⟨v2, v3⟩ o h
    refine AWp.seq ?_
    refine AWp.start [0] [] [] [3, 8, 9, 10, 11] 0 ⟨[(3, .tv (ownL 1 5 (cInt .u8) v2)), (8, .al (.slot 3 0, [])), (9, .tv (.int .i64 ((v1.map (fun b => (b.toNat : Int))).length : Int))), (10, .tv (.int .i64 v3)), (11, .tv (.bool (decide (v3 < ((v1.map (fun b => (b.toNat : Int))).length : Int)))))], []⟩ rfl ?_ (Nat.zero_le _) trivial ?_
    · kernel_rfl
    refine AOps.nil ?_
    refine AWp.seq ?_
    refine AWp.cond rfl (fun hb => ?_) fun hb => ?_
    · replace h := of_true h hb
      refine AWp.keepTo [3, 8, 9, 10] 0 ⟨[(3, .tv (ownL 1 5 (cInt .u8) v2)), (8, .al (.slot 3 0, [])), (9, .tv (.int .i64 ((v1.map (fun b => (b.toNat : Int))).length : Int))), (10, .tv (.int .i64 v3))], []⟩ ?_ (Nat.zero_le _) ?_
      · kernel_rfl
      refine AWp.skip ?_
      refine AWp.join (V := (List Int)) (fun w => ⟨[(3, .tv (ownL 1 5 (cInt .u8) w)), (8, .al (.slot 3 0, [])), (9, .tv (.int .i64 ((v1.map (fun b => (b.toNat : Int))).length : Int))), (10, .tv (.int .i64 v3))], []⟩) (fun w => f60_j1 v3 w = some o) ?_ ?_
      · refine AWp.block ?_
        refine AWp.seq ?_
        obtain ⟨hg, h⟩ := of_guard h
        refine AWp.start [0, 1, 2, 3, 4] [] [(0 : Int) ≤ v3, v3 < (v2.length : Int)] [3, 4, 5, 8, 9, 10] 0 ⟨[(3, .tv (ownL 1 5 (cInt .u8) v2)), (4, .tv (.int .i64 v3)), (5, .tv (.int .u8 (v2.getD v3.toNat default))), (8, .al (.slot 3 0, [])), (9, .tv (.int .i64 ((v1.map (fun b => (b.toNat : Int))).length : Int))), (10, .tv (.int .i64 v3))], []⟩ rfl ?_ (Nat.zero_le _) ⟨hg.1, hg.2⟩ ?_
        · kernel_rfl
        refine AOps.nil ?_
        refine AWp.seq ?_
        refine AWp.start [0, 1, 2] [3, 4, 5] [] [3, 4, 5, 8, 9, 10, 17] 0 ⟨[(3, .tv (ownL 1 5 (cInt .u8) v2)), (4, .tv (.int .i64 v3)), (5, .tv (.int .u8 (v2.getD v3.toNat default))), (8, .al (.slot 3 0, [])), (9, .tv (.int .i64 ((v1.map (fun b => (b.toNat : Int))).length : Int))), (10, .tv (.int .i64 v3)), (17, .tv (.bool (decide (v2.getD v3.toNat default ≥ (65 : Int)))))], []⟩ rfl ?_ (Nat.zero_le _) trivial ?_
        · kernel_rfl
        obtain ⟨v6, hc3, h⟩ := of_bind h
        refine AOps.cut [3, 4, 5] [] (fun σ => σ = ⟨[(3, .tv (ownL 1 5 (cInt .u8) v2)), (4, .tv (.int .i64 v3)), (5, .tv (.int .u8 (v2.getD v3.toNat default))), (8, .al (.slot 3 0, [])), (9, .tv (.int .i64 ((v1.map (fun b => (b.toNat : Int))).length : Int))), (10, .tv (.int .i64 v3)), (20, .tv (.bool v6))], []⟩) ?_ fun σ' hJ => ?_
        · refine AOps.split (fun b => ⟨[(3, .tv (ownL 1 5 (cInt .u8) v2)), (4, .tv (.int .i64 v3)), (5, .tv (.int .u8 (v2.getD v3.toNat default))), (8, .al (.slot 3 0, [])), (9, .tv (.int .i64 ((v1.map (fun b => (b.toNat : Int))).length : Int))), (10, .tv (.int .i64 v3)), (17, .tv (.bool b))], []⟩) _ (fun hb => ?_) fun hb => ?_
          · replace hc3 := of_true hc3 hb
            refine AOps.go [3, 4, 5] [] [] [3, 4, 5, 8, 9, 10, 20] 0 ⟨[(3, .tv (ownL 1 5 (cInt .u8) v2)), (4, .tv (.int .i64 v3)), (5, .tv (.int .u8 (v2.getD v3.toNat default))), (8, .al (.slot 3 0, [])), (9, .tv (.int .i64 ((v1.map (fun b => (b.toNat : Int))).length : Int))), (10, .tv (.int .i64 v3)), (20, .tv (.bool (decide (v2.getD v3.toNat default ≤ (90 : Int)))))], []⟩ ?_ (Nat.zero_le _) trivial ?_
            · kernel_rfl
            cases hc3
            exact AOps.nil rfl
          · replace hc3 := of_false hc3 hb
            refine AOps.go [3, 4, 5] [] [] [3, 4, 5, 8, 9, 10, 20] 0 ⟨[(3, .tv (ownL 1 5 (cInt .u8) v2)), (4, .tv (.int .i64 v3)), (5, .tv (.int .u8 (v2.getD v3.toNat default))), (8, .al (.slot 3 0, [])), (9, .tv (.int .i64 ((v1.map (fun b => (b.toNat : Int))).length : Int))), (10, .tv (.int .i64 v3)), (20, .tv (.bool false))], []⟩ ?_ (Nat.zero_le _) trivial ?_
            · kernel_rfl
            cases hc3
            exact AOps.nil rfl
        subst hJ
        refine AOps.nil ?_
        refine AWp.cond rfl (fun hb => ?_) fun hb => ?_
        · replace h := of_true h hb
          refine AWp.keepTo [3, 4, 5, 8, 9, 10] 0 ⟨[(3, .tv (ownL 1 5 (cInt .u8) v2)), (4, .tv (.int .i64 v3)), (5, .tv (.int .u8 (v2.getD v3.toNat default))), (8, .al (.slot 3 0, [])), (9, .tv (.int .i64 ((v1.map (fun b => (b.toNat : Int))).length : Int))), (10, .tv (.int .i64 v3))], []⟩ ?_ (Nat.zero_le _) ?_
          · kernel_rfl
          obtain ⟨hg, h⟩ := of_guard h
          refine AWp.start [0, 1, 2, 3, 4, 5, 6] [] [(0 : Int) ≤ v3, v3 < (v2.length : Int), PlainTo v2.length (fun i => (cInt .u8) (v2.getD i default))] [3, 8, 9, 10] 0 ⟨[(3, .tv (.own 1 5 v2.length (setElem (fun i => (cInt .u8) (v2.getD i default)) v3.toNat (putAt ((cInt .u8) (v2.getD v3.toNat default)) 0 [.int .u8 (IntKind.wrap .u8 ((IntKind.wrap .u8 ((v2.getD v3.toNat default) - (65 : Int))) + (97 : Int)))])))), (8, .al (.slot 3 0, [])), (9, .tv (.int .i64 ((v1.map (fun b => (b.toNat : Int))).length : Int))), (10, .tv (.int .i64 v3))], []⟩ rfl ?_ (Nat.zero_le _) ⟨hg.1, hg.2, (fun _ _ => rfl)⟩ ?_
          · kernel_rfl
          refine AOps.extL 3 (cInt .u8) (v2.set v3.toNat (IntKind.wrap .u8 ((IntKind.wrap .u8 ((v2.getD v3.toNat default) - (65 : Int))) + (97 : Int)))) rfl (by simp) (set_at (cInt .u8) v2 v3.toNat 0 [.int .u8 (IntKind.wrap .u8 ((IntKind.wrap .u8 ((v2.getD v3.toNat default) - (65 : Int))) + (97 : Int)))] (IntKind.wrap .u8 ((IntKind.wrap .u8 ((v2.getD v3.toNat default) - (65 : Int))) + (97 : Int))) rfl) ?_
          refine AOps.keepTo [3, 8, 9, 10] 0 ⟨[(3, .tv (ownL 1 5 (cInt .u8) (v2.set v3.toNat (IntKind.wrap .u8 ((IntKind.wrap .u8 ((v2.getD v3.toNat default) - (65 : Int))) + (97 : Int)))))), (8, .al (.slot 3 0, [])), (9, .tv (.int .i64 ((v1.map (fun b => (b.toNat : Int))).length : Int))), (10, .tv (.int .i64 v3))], []⟩ ?_ (Nat.zero_le _) ?_
          · kernel_rfl
          refine AOps.nil ?_
          exact ⟨v2.set v3.toNat (IntKind.wrap .u8 ((IntKind.wrap .u8 ((v2.getD v3.toNat default) - (65 : Int))) + (97 : Int))), h, rfl⟩
        · replace h := of_false h hb
          refine AWp.keepTo [3, 8, 9, 10] 0 ⟨[(3, .tv (ownL 1 5 (cInt .u8) v2)), (8, .al (.slot 3 0, [])), (9, .tv (.int .i64 ((v1.map (fun b => (b.toNat : Int))).length : Int))), (10, .tv (.int .i64 v3))], []⟩ ?_ (Nat.zero_le _) ?_
          · kernel_rfl
          refine AWp.skip ?_
          exact ⟨v2, h, rfl⟩
      · rintro v5 h
        refine AWp.start [0, 1] [] [] [3, 8, 9, 10] 0 ⟨[(3, .tv (ownL 1 5 (cInt .u8) v5)), (8, .al (.slot 3 0, [])), (9, .tv (.int .i64 ((v1.map (fun b => (b.toNat : Int))).length : Int))), (10, .tv (.int .i64 (w64 (v3 + (1 : Int)))))], []⟩ rfl ?_ (Nat.zero_le _) trivial ?_
        · kernel_rfl
        refine AOps.nil ?_
        cases h
        exact Or.inl ⟨_, rfl, rfl, rfl⟩
    · replace h := of_false h hb
      refine AWp.keepTo [3] 0 ⟨[(3, .tv (ownL 1 5 (cInt .u8) v2))], []⟩ ?_ (Nat.zero_le _) ?_
      · kernel_rfl
      refine AWp.exit ?_
      cases h
      exact Or.inr ⟨_, rfl, by simp, rfl, rfl⟩
  · intro e σ hp
    rcases y with v7 | v4
    · obtain ⟨rfl, rfl⟩ := hp
      cases h
      exact ⟨.inr rfl, rfl⟩
    · obtain ⟨rfl, rfl⟩ := hp
      refine AWp.seq ?_
      refine AWp.start [0] [1, 2] [] [3, 28] 0 ⟨[(3, .tv (ownL 1 5 (cInt .u8) v4)), (28, .al (.slot 3 0, []))], []⟩ rfl ?_ (Nat.zero_le _) trivial ?_
      · kernel_rfl
      refine AOps.cons (AOne.str (F := (FF 30 0)) _ rfl rfl rfl _ rfl rfl rfl rfl rfl (n := v4.length) (f := (fun i => (cInt .u8) (v4.getD i default))) rfl v4 rfl (fun _ _ => rfl)) ?_
      refine AOps.go [2] [] [] [2] 0 ⟨[(2, .tv (.str (v4.map (fun n => UInt8.ofNat n.toNat))))], []⟩ ?_ (Nat.zero_le _) trivial ?_
      · kernel_rfl
      refine AOps.nil ?_
      refine AWp.ret ?_
      cases h
      exact ⟨.inr rfl, rfl⟩

noncomputable def f38 (v1 : List UInt8) : Option Bool :=
  (cond (!(v1 == ([] : List UInt8))) (some (decide ((v1.length : Int) ≤ (12 : Int)))) (some false)).bind fun v2 => (cond v2 (if (0 : Int) < (v1.length : Int) then (f57 (((v1.getD 0 0).toNat : Nat) : Int)).bind fun v3 => some v3 else none) (some false)).bind fun v4 => (cond v4 ((f58_59 v1).bind fun v5 => some (v5 == (v1.length : Int))) (some false)).bind fun v6 => (cond v6 ((f60 v1).bind fun v7 => some (v1 == v7)) (some false)).bind fun v8 => some v8

theorem f38_ok (v1 : List UInt8) {r : Bool} (h : f38 v1 = some r) : ACall Try.prog 38 [.tv (.str v1)] [] (.tv (.bool r)) [] := by
  refine ACall.of1 (FF 28 0) Try.func38 rfl Try.ntmps38 Try.results38 (Nat.le_of_ble_eq_true rfl) rfl rfl ?_
  refine AWp.seq ?_
  refine AWp.start [0] [] [] [0] 0 ⟨[(0, .tv (.str v1))], []⟩ rfl ?_ (Nat.zero_le _) trivial ?_
  · kernel_rfl
  refine AOps.nil ?_
  refine AWp.seq ?_
  refine AWp.start [0, 1, 2] [3, 4, 5, 6, 7, 8, 9, 10, 11, 12, 13, 14, 15, 16, 17, 18, 19, 20, 21, 22, 23, 24, 25] [] [0, 5] 0 ⟨[(0, .tv (.str v1)), (5, .tv (.bool (!(v1 == ([] : List UInt8)))))], []⟩ rfl ?_ (Nat.zero_le _) trivial ?_
  · kernel_rfl
  obtain ⟨v2, hc3, h⟩ := of_bind h
  refine AOps.cut [3, 4, 5, 6] [7, 8, 9, 10, 11, 12, 13, 14, 15, 16, 17, 18, 19, 20, 21, 22, 23, 24, 25] (fun σ => σ = ⟨[(0, .tv (.str v1)), (9, .tv (.bool v2))], []⟩) ?_ fun σ' hJ => ?_
  · refine AOps.split (fun b => ⟨[(0, .tv (.str v1)), (5, .tv (.bool b))], []⟩) _ (fun hb => ?_) fun hb => ?_
    · replace hc3 := of_true hc3 hb
      refine AOps.go [3, 4, 5, 6] [] [] [0, 9] 0 ⟨[(0, .tv (.str v1)), (9, .tv (.bool (decide ((v1.length : Int) ≤ (12 : Int)))))], []⟩ ?_ (Nat.zero_le _) trivial ?_
      · kernel_rfl
      cases hc3
      exact AOps.nil rfl
    · replace hc3 := of_false hc3 hb
      refine AOps.go [3, 4, 5, 6] [] [] [0, 9] 0 ⟨[(0, .tv (.str v1)), (9, .tv (.bool false))], []⟩ ?_ (Nat.zero_le _) trivial ?_
      · kernel_rfl
      cases hc3
      exact AOps.nil rfl
  subst hJ
  refine AOps.go [7] [8, 9, 10, 11, 12, 13, 14, 15, 16, 17, 18, 19, 20, 21, 22, 23, 24, 25] [] [0, 10] 0 ⟨[(0, .tv (.str v1)), (10, .tv (.bool v2))], []⟩ ?_ (Nat.zero_le _) trivial ?_
  · kernel_rfl
  obtain ⟨v4, hc8, h⟩ := of_bind h
  refine AOps.cut [8, 9, 10, 11] [12, 13, 14, 15, 16, 17, 18, 19, 20, 21, 22, 23, 24, 25] (fun σ => σ = ⟨[(0, .tv (.str v1)), (14, .tv (.bool v4))], []⟩) ?_ fun σ' hJ => ?_
  · refine AOps.split (fun b => ⟨[(0, .tv (.str v1)), (10, .tv (.bool b))], []⟩) _ (fun hb => ?_) fun hb => ?_
    · replace hc8 := of_true hc8 hb
      obtain ⟨hg, hc8⟩ := of_guard hc8
      refine AOps.go [8, 9] [10, 11] [(0 : Int) ≤ (0 : Int), (0 : Int) < (v1.length : Int)] [0, 10, 12] 0 ⟨[(0, .tv (.str v1)), (10, .tv (.bool true)), (12, .tv (.int .u8 (((v1.getD 0 0).toNat : Nat) : Int)))], []⟩ ?_ (Nat.zero_le _) ⟨(by decide : (0 : Int) ≤ (0 : Int)), hg⟩ ?_
      · kernel_rfl
      obtain ⟨v3, hv3, hc8⟩ := of_bind hc8
      refine AOps.cons (AOne.callP (F := (FF 28 0)) _ rfl rfl rfl _ rfl rfl _ _ rfl Try.call57 [.tv (.int .u8 (((v1.getD 0 0).toNat : Nat) : Int))] rfl rfl (f57_ok (((v1.getD 0 0).toNat : Nat) : Int) hv3) rfl) ?_
      refine AOps.go [11] [] [] [0, 14] 0 ⟨[(0, .tv (.str v1)), (14, .tv (.bool v3))], []⟩ ?_ (Nat.zero_le _) trivial ?_
      · kernel_rfl
      cases hc8
      exact AOps.nil rfl
    · replace hc8 := of_false hc8 hb
      refine AOps.go [8, 9, 10, 11] [] [] [0, 14] 0 ⟨[(0, .tv (.str v1)), (14, .tv (.bool false))], []⟩ ?_ (Nat.zero_le _) trivial ?_
      · kernel_rfl
      cases hc8
      exact AOps.nil rfl
  subst hJ
  refine AOps.go [12] [13, 14, 15, 16, 17, 18, 19, 20, 21, 22, 23, 24, 25] [] [0, 15] 0 ⟨[(0, .tv (.str v1)), (15, .tv (.bool v4))], []⟩ ?_ (Nat.zero_le _) trivial ?_
  · kernel_rfl
  obtain ⟨v6, hc13, h⟩ := of_bind h
  refine AOps.cut [13, 14, 15, 16, 17, 18] [19, 20, 21, 22, 23, 24, 25] (fun σ => σ = ⟨[(0, .tv (.str v1)), (21, .tv (.bool v6))], []⟩) ?_ fun σ' hJ => ?_
  · refine AOps.split (fun b => ⟨[(0, .tv (.str v1)), (15, .tv (.bool b))], []⟩) _ (fun hb => ?_) fun hb => ?_
    · replace hc13 := of_true hc13 hb
      refine AOps.go [13] [14, 15, 16, 17, 18] [] [0, 15, 16] 0 ⟨[(0, .tv (.str v1)), (15, .tv (.bool true)), (16, .tv (.str v1))], []⟩ ?_ (Nat.zero_le _) trivial ?_
      · kernel_rfl
      obtain ⟨v5, hv5, hc13⟩ := of_bind hc13
      refine AOps.cons (AOne.callP (F := (FF 28 0)) _ rfl rfl rfl _ rfl rfl _ _ rfl Try.call58 [.tv (.str v1), .fn 59 []] rfl rfl (f58_59_ok v1 hv5) rfl) ?_
      refine AOps.go [15, 16, 17, 18] [] [] [0, 21] 0 ⟨[(0, .tv (.str v1)), (21, .tv (.bool (v5 == (v1.length : Int))))], []⟩ ?_ (Nat.zero_le _) trivial ?_
      · kernel_rfl
      cases hc13
      exact AOps.nil rfl
    · replace hc13 := of_false hc13 hb
      refine AOps.go [13, 14, 15, 16, 17, 18] [] [] [0, 21] 0 ⟨[(0, .tv (.str v1)), (21, .tv (.bool false))], []⟩ ?_ (Nat.zero_le _) trivial ?_
      · kernel_rfl
      cases hc13
      exact AOps.nil rfl
  subst hJ
  refine AOps.go [19] [20, 21, 22, 23, 24, 25] [] [0, 22] 0 ⟨[(0, .tv (.str v1)), (22, .tv (.bool v6))], []⟩ ?_ (Nat.zero_le _) trivial ?_
  · kernel_rfl
  obtain ⟨v8, hc20, h⟩ := of_bind h
  refine AOps.cut [20, 21, 22, 23, 24] [25] (fun σ => σ = ⟨[(27, .tv (.bool v8))], []⟩) ?_ fun σ' hJ => ?_
  · refine AOps.split (fun b => ⟨[(0, .tv (.str v1)), (22, .tv (.bool b))], []⟩) _ (fun hb => ?_) fun hb => ?_
    · replace hc20 := of_true hc20 hb
      refine AOps.go [20, 21] [22, 23, 24] [] [22, 23, 24] 0 ⟨[(22, .tv (.bool true)), (23, .tv (.str v1)), (24, .tv (.str v1))], []⟩ ?_ (Nat.zero_le _) trivial ?_
      · kernel_rfl
      obtain ⟨v7, hv7, hc20⟩ := of_bind hc20
      refine AOps.cons (AOne.callP (F := (FF 28 0)) _ rfl rfl rfl _ rfl rfl _ _ rfl Try.call60 [.tv (.str v1)] rfl rfl (f60_ok v1 hv7) rfl) ?_
      refine AOps.go [23, 24] [] [] [27] 0 ⟨[(27, .tv (.bool (v1 == v7)))], []⟩ ?_ (Nat.zero_le _) trivial ?_
      · kernel_rfl
      cases hc20
      exact AOps.nil rfl
    · replace hc20 := of_false hc20 hb
      refine AOps.go [20, 21, 22, 23, 24] [] [] [27] 0 ⟨[(27, .tv (.bool false))], []⟩ ?_ (Nat.zero_le _) trivial ?_
      · kernel_rfl
      cases hc20
      exact AOps.nil rfl
  subst hJ
  refine AOps.go [25] [] [] [2] 0 ⟨[(2, .tv (.bool v8))], []⟩ ?_ (Nat.zero_le _) trivial ?_
  · kernel_rfl
  refine AOps.nil ?_
  refine AWp.ret ?_
  cases h
  exact ⟨.inr rfl, rfl⟩

noncomputable def f39 (v1 : T48) (v2 : Int) : Option Bool :=
  (cond (decide (v1.f0 ≥ (1 : Int))) (some (decide (v1.f0 ≤ (4 : Int)))) (some false)).bind fun v3 => (cond v3 (some (decide (v1.f1 ≥ v2))) (some false)).bind fun v4 => (cond v4 (some (decide (v1.f1 ≤ (3 : Int)))) (some false)).bind fun v5 => some v5

theorem f39_ok (v1 : T48) (v2 : Int) {r : Bool} (h : f39 v1 v2 = some r) : ACall Try.prog 39 [.agg [.int .i64 v1.f0, .int .i64 v1.f1, .bool v1.f2], .tv (.int .i64 v2)] [] (.tv (.bool r)) [] := by
  refine ACall.of1 (FF 24 0) Try.func39 rfl Try.ntmps39 Try.results39 (Nat.le_of_ble_eq_true rfl) rfl rfl ?_
  refine AWp.seq ?_
  refine AWp.start [0, 1] [] [] [1, 2] 1 ⟨[(1, .tv (.int .i64 v2)), (2, .pc 0 0)], [.cells 49 [.int .i64 v1.f0, .int .i64 v1.f1, .bool v1.f2]]⟩ rfl ?_ (Nat.zero_le _) trivial ?_
  · kernel_rfl
  refine AOps.nil ?_
  refine AWp.seq ?_
  refine AWp.pin 0 rfl rfl ?_
  refine AWp.keepTo [1, 2] 0 ⟨[(1, .tv (.int .i64 v2)), (2, .rp [.int .i64 v1.f0, .int .i64 v1.f1, .bool v1.f2])], []⟩ ?_ (Nat.zero_le _) ?_
  · kernel_rfl
  refine AWp.start [0, 1, 2, 3] [4, 5, 6, 7, 8, 9, 10, 11, 12, 13, 14, 15, 16, 17, 18, 19] [] [1, 2, 8] 0 ⟨[(1, .tv (.int .i64 v2)), (2, .rp [.int .i64 v1.f0, .int .i64 v1.f1, .bool v1.f2]), (8, .tv (.bool (decide (v1.f0 ≥ (1 : Int)))))], []⟩ rfl ?_ (Nat.zero_le _) trivial ?_
  · kernel_rfl
  obtain ⟨v3, hc4, h⟩ := of_bind h
  refine AOps.cut [4, 5, 6, 7] [8, 9, 10, 11, 12, 13, 14, 15, 16, 17, 18, 19] (fun σ => σ = ⟨[(1, .tv (.int .i64 v2)), (2, .rp [.int .i64 v1.f0, .int .i64 v1.f1, .bool v1.f2]), (12, .tv (.bool v3))], []⟩) ?_ fun σ' hJ => ?_
  · refine AOps.split (fun b => ⟨[(1, .tv (.int .i64 v2)), (2, .rp [.int .i64 v1.f0, .int .i64 v1.f1, .bool v1.f2]), (8, .tv (.bool b))], []⟩) _ (fun hb => ?_) fun hb => ?_
    · replace hc4 := of_true hc4 hb
      refine AOps.go [4, 5, 6, 7] [] [] [1, 2, 12] 0 ⟨[(1, .tv (.int .i64 v2)), (2, .rp [.int .i64 v1.f0, .int .i64 v1.f1, .bool v1.f2]), (12, .tv (.bool (decide (v1.f0 ≤ (4 : Int)))))], []⟩ ?_ (Nat.zero_le _) trivial ?_
      · kernel_rfl
      cases hc4
      exact AOps.nil rfl
    · replace hc4 := of_false hc4 hb
      refine AOps.go [4, 5, 6, 7] [] [] [1, 2, 12] 0 ⟨[(1, .tv (.int .i64 v2)), (2, .rp [.int .i64 v1.f0, .int .i64 v1.f1, .bool v1.f2]), (12, .tv (.bool false))], []⟩ ?_ (Nat.zero_le _) trivial ?_
      · kernel_rfl
      cases hc4
      exact AOps.nil rfl
  subst hJ
  refine AOps.go [8] [9, 10, 11, 12, 13, 14, 15, 16, 17, 18, 19] [] [1, 2, 13] 0 ⟨[(1, .tv (.int .i64 v2)), (2, .rp [.int .i64 v1.f0, .int .i64 v1.f1, .bool v1.f2]), (13, .tv (.bool v3))], []⟩ ?_ (Nat.zero_le _) trivial ?_
  · kernel_rfl
  obtain ⟨v4, hc9, h⟩ := of_bind h
  refine AOps.cut [9, 10, 11, 12, 13] [14, 15, 16, 17, 18, 19] (fun σ => σ = ⟨[(2, .rp [.int .i64 v1.f0, .int .i64 v1.f1, .bool v1.f2]), (18, .tv (.bool v4))], []⟩) ?_ fun σ' hJ => ?_
  · refine AOps.split (fun b => ⟨[(1, .tv (.int .i64 v2)), (2, .rp [.int .i64 v1.f0, .int .i64 v1.f1, .bool v1.f2]), (13, .tv (.bool b))], []⟩) _ (fun hb => ?_) fun hb => ?_
    · replace hc9 := of_true hc9 hb
      refine AOps.go [9, 10, 11, 12, 13] [] [] [2, 18] 0 ⟨[(2, .rp [.int .i64 v1.f0, .int .i64 v1.f1, .bool v1.f2]), (18, .tv (.bool (decide (v1.f1 ≥ v2))))], []⟩ ?_ (Nat.zero_le _) trivial ?_
      · kernel_rfl
      cases hc9
      exact AOps.nil rfl
    · replace hc9 := of_false hc9 hb
      refine AOps.go [9, 10, 11, 12, 13] [] [] [2, 18] 0 ⟨[(2, .rp [.int .i64 v1.f0, .int .i64 v1.f1, .bool v1.f2]), (18, .tv (.bool false))], []⟩ ?_ (Nat.zero_le _) trivial ?_
      · kernel_rfl
      cases hc9
      exact AOps.nil rfl
  subst hJ
  refine AOps.go [14] [15, 16, 17, 18, 19] [] [2, 19] 0 ⟨[(2, .rp [.int .i64 v1.f0, .int .i64 v1.f1, .bool v1.f2]), (19, .tv (.bool v4))], []⟩ ?_ (Nat.zero_le _) trivial ?_
  · kernel_rfl
  obtain ⟨v5, hc15, h⟩ := of_bind h
  refine AOps.cut [15, 16, 17, 18] [19] (fun σ => σ = ⟨[(23, .tv (.bool v5))], []⟩) ?_ fun σ' hJ => ?_
  · refine AOps.split (fun b => ⟨[(2, .rp [.int .i64 v1.f0, .int .i64 v1.f1, .bool v1.f2]), (19, .tv (.bool b))], []⟩) _ (fun hb => ?_) fun hb => ?_
    · replace hc15 := of_true hc15 hb
      refine AOps.go [15, 16, 17, 18] [] [] [23] 0 ⟨[(23, .tv (.bool (decide (v1.f1 ≤ (3 : Int)))))], []⟩ ?_ (Nat.zero_le _) trivial ?_
      · kernel_rfl
      cases hc15
      exact AOps.nil rfl
    · replace hc15 := of_false hc15 hb
      refine AOps.go [15, 16, 17, 18] [] [] [23] 0 ⟨[(23, .tv (.bool false))], []⟩ ?_ (Nat.zero_le _) trivial ?_
      · kernel_rfl
      cases hc15
      exact AOps.nil rfl
  subst hJ
  refine AOps.go [19] [] [] [4] 0 ⟨[(4, .tv (.bool v5))], []⟩ ?_ (Nat.zero_le _) trivial ?_
  · kernel_rfl
  refine AOps.nil ?_
  refine AWp.ret ?_
  cases h
  exact ⟨.inr rfl, rfl⟩

noncomputable def f54 (v1 : T48) : Option Bool :=
  some (v1.f1 == (-1 : Int))

theorem f54_ok (v1 : T48) {r : Bool} (h : f54 v1 = some r) : ACall Try.prog 54 [.agg [.int .i64 v1.f0, .int .i64 v1.f1, .bool v1.f2]] [] (.tv (.bool r)) [] := by
  refine ACall.of1 (FF 6 0) Try.func54 rfl Try.ntmps54 Try.results54 (Nat.le_of_ble_eq_true rfl) rfl rfl ?_
  refine AWp.seq ?_
  refine AWp.start [0, 1] [] [] [1] 1 ⟨[(1, .pc 0 0)], [.cells 49 [.int .i64 v1.f0, .int .i64 v1.f1, .bool v1.f2]]⟩ rfl ?_ (Nat.zero_le _) trivial ?_
  · kernel_rfl
  refine AOps.nil ?_
  refine AWp.seq ?_
  refine AWp.pin 0 rfl rfl ?_
  refine AWp.keepTo [1] 0 ⟨[(1, .rp [.int .i64 v1.f0, .int .i64 v1.f1, .bool v1.f2])], []⟩ ?_ (Nat.zero_le _) ?_
  · kernel_rfl
  refine AWp.start [0, 1, 2, 3] [] [] [2] 0 ⟨[(2, .tv (.bool (v1.f1 == (-1 : Int))))], []⟩ rfl ?_ (Nat.zero_le _) trivial ?_
  · kernel_rfl
  refine AOps.nil ?_
  refine AWp.ret ?_
  cases h
  exact ⟨.inr rfl, rfl⟩

noncomputable def f65_54_b1 (v1 : List T48) (v2 : Int) : Option (Int ⊕ Out Int Unit) :=
  cond (decide (v2 < (v1.length : Int))) (if (0 : Int) ≤ v2 ∧ v2 < (v1.length : Int) then (f54 (v1.getD v2.toNat default)).bind fun v3 => cond v3 (some (.inr (.ret v2))) (some (.inl (w64 (v2 + (1 : Int))))) else none) (some (.inr (.go ())))

noncomputable def f65_54 (v1 : List T48) : Option Int :=
  (iter (fun s => f65_54_b1 v1 s) (0 : Int)).bind fun y => match y with | .ret v4 => some v4 | .go _ => some (-1 : Int)

theorem f65_54_ok (v1 : List T48) {r : Int} (h : f65_54 v1 = some r) : ACall Try.prog 65 [.tv (fzL 3 c48 v1), .fn 54 []] [] (.tv (.int .i64 r)) [] := by
  refine ACall.of1 (FF 19 0) Try.func65 rfl Try.ntmps65 Try.results65 (Nat.le_of_ble_eq_true rfl) rfl rfl ?_
  refine AWp.seq ?_
  refine AWp.start [0] [] [] [0, 1] 0 ⟨[(0, .tv (fzL 3 c48 v1)), (1, .fn 54 [])], []⟩ rfl ?_ (Nat.zero_le _) trivial ?_
  · kernel_rfl
  refine AOps.nil ?_
  refine AWp.seq ?_
  refine AWp.seq ?_
  refine AWp.start [0, 1, 2] [] [] [0, 1, 7, 8] 0 ⟨[(0, .tv (fzL 3 c48 v1)), (1, .fn 54 []), (7, .tv (.int .i64 (v1.length : Int))), (8, .tv (.int .i64 (0 : Int)))], []⟩ rfl ?_ (Nat.zero_le _) trivial ?_
  · kernel_rfl
  refine AOps.nil ?_
  refine AWp.block ?_
  obtain ⟨y, hy, h⟩ := of_bind h
  refine AWp.mono (AWp.loop (S := Int) (Y := Out Int Unit) (fun s => ⟨[(0, .tv (fzL 3 c48 v1)), (1, .fn 54 []), (7, .tv (.int .i64 (v1.length : Int))), (8, .tv (.int .i64 s))], []⟩) (fun s => f65_54_b1 v1 s) (fun y e σ => match y with | .ret r => e = .ret ∧ σ = ⟨[(4, .tv (.int .i64 r))], []⟩ | .go v => e = .exit 0 ∧ σ = ⟨[], []⟩) ?_ hy) ?_
  · rintro v2 o h
    refine AWp.seq ?_
    refine AWp.start [0] [] [] [0, 1, 7, 8, 9] 0 ⟨[(0, .tv (fzL 3 c48 v1)), (1, .fn 54 []), (7, .tv (.int .i64 (v1.length : Int))), (8, .tv (.int .i64 v2)), (9, .tv (.bool (decide (v2 < (v1.length : Int)))))], []⟩ rfl ?_ (Nat.zero_le _) trivial ?_
    · kernel_rfl
    refine AOps.nil ?_
    refine AWp.seq ?_
    refine AWp.cond rfl (fun hb => ?_) fun hb => ?_
    · replace h := of_true h hb
      refine AWp.keepTo [0, 1, 7, 8] 0 ⟨[(0, .tv (fzL 3 c48 v1)), (1, .fn 54 []), (7, .tv (.int .i64 (v1.length : Int))), (8, .tv (.int .i64 v2))], []⟩ ?_ (Nat.zero_le _) ?_
      · kernel_rfl
      refine AWp.skip ?_
      refine AWp.seq ?_
      refine AWp.block ?_
      refine AWp.seq ?_
      refine AWp.start [0, 1] [] [] [0, 1, 5, 7, 8] 0 ⟨[(0, .tv (fzL 3 c48 v1)), (1, .fn 54 []), (5, .tv (.int .i64 v2)), (7, .tv (.int .i64 (v1.length : Int))), (8, .tv (.int .i64 v2))], []⟩ rfl ?_ (Nat.zero_le _) trivial ?_
      · kernel_rfl
      refine AOps.nil ?_
      refine AWp.seq ?_
      obtain ⟨hg, h⟩ := of_guard h
      refine AWp.start [0, 1, 2, 3, 4] [5] [(0 : Int) ≤ v2, v2 < (v1.length : Int)] [0, 1, 5, 7, 8, 11, 15] 0 ⟨[(0, .tv (fzL 3 c48 v1)), (1, .fn 54 []), (5, .tv (.int .i64 v2)), (7, .tv (.int .i64 (v1.length : Int))), (8, .tv (.int .i64 v2)), (11, .fn 54 []), (15, .agg [.int .i64 ((v1.getD v2.toNat default).f0), .int .i64 ((v1.getD v2.toNat default).f1), .bool ((v1.getD v2.toNat default).f2)])], []⟩ rfl ?_ (Nat.zero_le _) ⟨hg.1, hg.2⟩ ?_
      · kernel_rfl
      obtain ⟨v3, hv3, h⟩ := of_bind h
      refine AOps.cons (AOne.callP (F := (FF 19 0)) _ rfl rfl rfl _ rfl rfl _ _ rfl Try.call54 [.agg [.int .i64 ((v1.getD v2.toNat default).f0), .int .i64 ((v1.getD v2.toNat default).f1), .bool ((v1.getD v2.toNat default).f2)]] rfl rfl (f54_ok (v1.getD v2.toNat default) hv3) rfl) ?_
      refine AOps.keepTo [0, 1, 5, 7, 8, 16] 0 ⟨[(0, .tv (fzL 3 c48 v1)), (1, .fn 54 []), (5, .tv (.int .i64 v2)), (7, .tv (.int .i64 (v1.length : Int))), (8, .tv (.int .i64 v2)), (16, .tv (.bool v3))], []⟩ ?_ (Nat.zero_le _) ?_
      · kernel_rfl
      refine AOps.nil ?_
      refine AWp.cond rfl (fun hb => ?_) fun hb => ?_
      · replace h := of_true h hb
        refine AWp.keepTo [5] 0 ⟨[(5, .tv (.int .i64 v2))], []⟩ ?_ (Nat.zero_le _) ?_
        · kernel_rfl
        refine AWp.seq ?_
        refine AWp.start [0, 1] [] [] [4] 0 ⟨[(4, .tv (.int .i64 v2))], []⟩ rfl ?_ (Nat.zero_le _) trivial ?_
        · kernel_rfl
        refine AOps.nil ?_
        refine AWp.ret ?_
        cases h
        exact Or.inr ⟨_, rfl, by simp, rfl, rfl⟩
      · replace h := of_false h hb
        refine AWp.keepTo [0, 1, 7, 8] 0 ⟨[(0, .tv (fzL 3 c48 v1)), (1, .fn 54 []), (7, .tv (.int .i64 (v1.length : Int))), (8, .tv (.int .i64 v2))], []⟩ ?_ (Nat.zero_le _) ?_
        · kernel_rfl
        refine AWp.skip ?_
        refine AWp.start [0, 1] [] [] [0, 1, 7, 8] 0 ⟨[(0, .tv (fzL 3 c48 v1)), (1, .fn 54 []), (7, .tv (.int .i64 (v1.length : Int))), (8, .tv (.int .i64 (w64 (v2 + (1 : Int)))))], []⟩ rfl ?_ (Nat.zero_le _) trivial ?_
        · kernel_rfl
        refine AOps.nil ?_
        cases h
        exact Or.inl ⟨_, rfl, rfl, rfl⟩
    · replace h := of_false h hb
      refine AWp.keepTo [] 0 ⟨[], []⟩ ?_ (Nat.zero_le _) ?_
      · kernel_rfl
      refine AWp.exit ?_
      cases h
      exact Or.inr ⟨_, rfl, by simp, rfl, rfl⟩
  · intro e σ hp
    rcases y with v4 | _
    · obtain ⟨rfl, rfl⟩ := hp
      cases h
      exact ⟨.inr rfl, rfl⟩
    · obtain ⟨rfl, rfl⟩ := hp
      refine AWp.seq ?_
      refine AWp.start [0] [] [] [4] 0 ⟨[(4, .tv (.int .i64 (-1 : Int)))], []⟩ rfl ?_ (Nat.zero_le _) trivial ?_
      · kernel_rfl
      refine AOps.nil ?_
      refine AWp.ret ?_
      cases h
      exact ⟨.inr rfl, rfl⟩

noncomputable def f52_54 (v1 : List T48) : Option Bool :=
  (f65_54 v1).bind fun v2 => some (decide (v2 ≥ (0 : Int)))

theorem f52_54_ok (v1 : List T48) {r : Bool} (h : f52_54 v1 = some r) : ACall Try.prog 52 [.tv (fzL 3 c48 v1), .fn 54 []] [] (.tv (.bool r)) [] := by
  refine ACall.of1 (FF 9 0) Try.func52 rfl Try.ntmps52 Try.results52 (Nat.le_of_ble_eq_true rfl) rfl rfl ?_
  refine AWp.seq ?_
  refine AWp.start [0] [] [] [0, 1] 0 ⟨[(0, .tv (fzL 3 c48 v1)), (1, .fn 54 [])], []⟩ rfl ?_ (Nat.zero_le _) trivial ?_
  · kernel_rfl
  refine AOps.nil ?_
  refine AWp.seq ?_
  refine AWp.start [0, 1] [2, 3, 4] [] [5, 6] 0 ⟨[(5, .tv (fzL 3 c48 v1)), (6, .fn 54 [])], []⟩ rfl ?_ (Nat.zero_le _) trivial ?_
  · kernel_rfl
  obtain ⟨v2, hv2, h⟩ := of_bind h
  refine AOps.cons (AOne.callP (F := (FF 9 0)) _ rfl rfl rfl _ rfl rfl _ _ rfl Try.call65 [.tv (fzL 3 c48 v1), .fn 54 []] rfl rfl (f65_54_ok v1 hv2) rfl) ?_
  refine AOps.go [3, 4] [] [] [4] 0 ⟨[(4, .tv (.bool (decide (v2 ≥ (0 : Int)))))], []⟩ ?_ (Nat.zero_le _) trivial ?_
  · kernel_rfl
  refine AOps.nil ?_
  refine AWp.ret ?_
  cases h
  exact ⟨.inr rfl, rfl⟩

noncomputable def f32 (v1 : T31) : Option Bool :=
  (f52_54 v1.f1).bind fun v2 => some v2

theorem f32_ok (v1 : T31) {r : Bool} (h : f32 v1 = some r) : ACall Try.prog 32 [.agg [.str v1.f0, fzL 3 c48 v1.f1]] [] (.tv (.bool r)) [] := by
  refine ACall.of1 (FF 6 0) Try.func32 rfl Try.ntmps32 Try.results32 (Nat.le_of_ble_eq_true rfl) rfl rfl ?_
  refine AWp.seq ?_
  refine AWp.start [0, 1] [] [] [1] 1 ⟨[(1, .pc 0 0)], [.cells 32 [.str v1.f0, fzL 3 c48 v1.f1]]⟩ rfl ?_ (Nat.zero_le _) trivial ?_
  · kernel_rfl
  refine AOps.nil ?_
  refine AWp.seq ?_
  refine AWp.pin 0 rfl rfl ?_
  refine AWp.keepTo [1] 0 ⟨[(1, .rp [.str v1.f0, fzL 3 c48 v1.f1])], []⟩ ?_ (Nat.zero_le _) ?_
  · kernel_rfl
  refine AWp.start [0, 1] [2, 3] [] [4] 0 ⟨[(4, .tv (fzL 3 c48 v1.f1))], []⟩ rfl ?_ (Nat.zero_le _) trivial ?_
  · kernel_rfl
  obtain ⟨v2, hv2, h⟩ := of_bind h
  refine AOps.cons (AOne.callP (F := (FF 6 0)) _ rfl rfl rfl _ rfl rfl _ _ rfl Try.call52 [.tv (fzL 3 c48 v1.f1), .fn 54 []] rfl rfl (f52_54_ok v1.f1 hv2) rfl) ?_
  refine AOps.go [3] [] [] [2] 0 ⟨[(2, .tv (.bool v2))], []⟩ ?_ (Nat.zero_le _) trivial ?_
  · kernel_rfl
  refine AOps.nil ?_
  refine AWp.ret ?_
  cases h
  exact ⟨.inr rfl, rfl⟩

noncomputable def f19_b1 (v1 : T31) (v4 : Int) : Option (Int ⊕ Out Bool Unit) :=
  cond (decide (v4 < (v1.f1.length : Int))) (if (0 : Int) ≤ v4 ∧ v4 < (v1.f1.length : Int) then (f39 (v1.f1.getD v4.toNat default) (-1 : Int)).bind fun v5 => (cond (!v5) (some true) ((f32 v1).bind fun v6 => (cond v6 (some ((v1.f1.getD v4.toNat default).f1 != (-1 : Int))) (some false)).bind fun v7 => some v7)).bind fun v8 => (cond v8 (some true) ((cond (decide (v4 > (0 : Int))) (if (0 : Int) ≤ w64 (v4 - (1 : Int)) ∧ w64 (v4 - (1 : Int)) < (v1.f1.length : Int) then some ((v1.f1.getD (Int.toNat (w64 (v4 - (1 : Int)))) default).f2) else none) (some false)).bind fun v9 => (cond v9 (some (!((v1.f1.getD v4.toNat default).f2))) (some false)).bind fun v10 => some v10)).bind fun v11 => cond v11 (some (.inr (.ret false))) (some (.inl (w64 (v4 + (1 : Int))))) else none) (some (.inr (.go ())))

noncomputable def f19 (v1 : T31) : Option Bool :=
  (f38 v1.f0).bind fun v2 => (cond (!v2) (some true) (some (decide ((v1.f1.length : Int) > (8 : Int))))).bind fun v3 => cond v3 (some false) ((iter (fun s => f19_b1 v1 s) (0 : Int)).bind fun y => match y with | .ret v12 => some v12 | .go _ => some true)

theorem f19_ok (v1 : T31) {r : Bool} (h : f19 v1 = some r) : ACall Try.prog 19 [.agg [.str v1.f0, fzL 3 c48 v1.f1]] [] (.tv (.bool r)) [] := by
  refine ACall.of1 (FF 54 0) Try.func19 rfl Try.ntmps19 Try.results19 (Nat.le_of_ble_eq_true rfl) rfl rfl ?_
  refine AWp.seq ?_
  refine AWp.start [0, 1] [] [] [1] 1 ⟨[(1, .pc 0 0)], [.cells 32 [.str v1.f0, fzL 3 c48 v1.f1]]⟩ rfl ?_ (Nat.zero_le _) trivial ?_
  · kernel_rfl
  refine AOps.nil ?_
  refine AWp.seq ?_
  refine AWp.seq ?_
  refine AWp.pin 0 rfl rfl ?_
  refine AWp.keepTo [1] 0 ⟨[(1, .rp [.str v1.f0, fzL 3 c48 v1.f1])], []⟩ ?_ (Nat.zero_le _) ?_
  · kernel_rfl
  refine AWp.start [0, 1] [2, 3, 4, 5, 6, 7, 8, 9] [] [1, 6] 0 ⟨[(1, .rp [.str v1.f0, fzL 3 c48 v1.f1]), (6, .tv (.str v1.f0))], []⟩ rfl ?_ (Nat.zero_le _) trivial ?_
  · kernel_rfl
  obtain ⟨v2, hv2, h⟩ := of_bind h
  refine AOps.cons (AOne.callP (F := (FF 54 0)) _ rfl rfl rfl _ rfl rfl _ _ rfl Try.call38 [.tv (.str v1.f0)] rfl rfl (f38_ok v1.f0 hv2) rfl) ?_
  refine AOps.go [3, 4] [5, 6, 7, 8, 9] [] [1, 9] 0 ⟨[(1, .rp [.str v1.f0, fzL 3 c48 v1.f1]), (9, .tv (.bool (!v2)))], []⟩ ?_ (Nat.zero_le _) trivial ?_
  · kernel_rfl
  obtain ⟨v3, hc5, h⟩ := of_bind h
  refine AOps.cut [5, 6, 7, 8, 9] [] (fun σ => σ = ⟨[(1, .rp [.str v1.f0, fzL 3 c48 v1.f1]), (14, .tv (.bool v3))], []⟩) ?_ fun σ' hJ => ?_
  · refine AOps.split (fun b => ⟨[(1, .rp [.str v1.f0, fzL 3 c48 v1.f1]), (9, .tv (.bool b))], []⟩) _ (fun hb => ?_) fun hb => ?_
    · replace hc5 := of_true hc5 hb
      refine AOps.go [5, 6, 7, 8, 9] [] [] [1, 14] 0 ⟨[(1, .rp [.str v1.f0, fzL 3 c48 v1.f1]), (14, .tv (.bool true))], []⟩ ?_ (Nat.zero_le _) trivial ?_
      · kernel_rfl
      cases hc5
      exact AOps.nil rfl
    · replace hc5 := of_false hc5 hb
      refine AOps.go [5, 6, 7, 8, 9] [] [] [1, 14] 0 ⟨[(1, .rp [.str v1.f0, fzL 3 c48 v1.f1]), (14, .tv (.bool (decide ((v1.f1.length : Int) > (8 : Int)))))], []⟩ ?_ (Nat.zero_le _) trivial ?_
      · kernel_rfl
      cases hc5
      exact AOps.nil rfl
  subst hJ
  refine AOps.nil ?_
  refine AWp.cond rfl (fun hb => ?_) fun hb => ?_
  · replace h := of_true h hb
    refine AWp.keepTo [] 0 ⟨[], []⟩ ?_ (Nat.zero_le _) ?_
    · kernel_rfl
    refine AWp.seq ?_
    refine AWp.start [0] [] [] [2] 0 ⟨[(2, .tv (.bool false))], []⟩ rfl ?_ (Nat.zero_le _) trivial ?_
    · kernel_rfl
    refine AOps.nil ?_
    refine AWp.ret ?_
    cases h
    exact ⟨.inr rfl, rfl⟩
  · replace h := of_false h hb
    refine AWp.keepTo [1] 0 ⟨[(1, .rp [.str v1.f0, fzL 3 c48 v1.f1])], []⟩ ?_ (Nat.zero_le _) ?_
    · kernel_rfl
    refine AWp.skip ?_
    refine AWp.seq ?_
    refine AWp.seq ?_
    refine AWp.start [0, 1, 2, 3] [] [] [1, 16, 17, 18] 0 ⟨[(1, .rp [.str v1.f0, fzL 3 c48 v1.f1]), (16, .tv (fzL 3 c48 v1.f1)), (17, .tv (.int .i64 (v1.f1.length : Int))), (18, .tv (.int .i64 (0 : Int)))], []⟩ rfl ?_ (Nat.zero_le _) trivial ?_
    · kernel_rfl
    refine AOps.nil ?_
    refine AWp.block ?_
    obtain ⟨y, hy, h⟩ := of_bind h
    refine AWp.mono (AWp.loop (S := Int) (Y := Out Bool Unit) (fun s => ⟨[(1, .rp [.str v1.f0, fzL 3 c48 v1.f1]), (16, .tv (fzL 3 c48 v1.f1)), (17, .tv (.int .i64 (v1.f1.length : Int))), (18, .tv (.int .i64 s))], []⟩) (fun s => f19_b1 v1 s) (fun y e σ => match y with | .ret r => e = .ret ∧ σ = ⟨[(2, .tv (.bool r))], []⟩ | .go v => e = .exit 0 ∧ σ = ⟨[], []⟩) ?_ hy) ?_
    · rintro v4 o h
      refine AWp.seq ?_
      refine AWp.start [0] [] [] [1, 16, 17, 18, 19] 0 ⟨[(1, .rp [.str v1.f0, fzL 3 c48 v1.f1]), (16, .tv (fzL 3 c48 v1.f1)), (17, .tv (.int .i64 (v1.f1.length : Int))), (18, .tv (.int .i64 v4)), (19, .tv (.bool (decide (v4 < (v1.f1.length : Int)))))], []⟩ rfl ?_ (Nat.zero_le _) trivial ?_
      · kernel_rfl
      refine AOps.nil ?_
      refine AWp.seq ?_
      refine AWp.cond rfl (fun hb => ?_) fun hb => ?_
      · replace h := of_true h hb
        refine AWp.keepTo [1, 16, 17, 18] 0 ⟨[(1, .rp [.str v1.f0, fzL 3 c48 v1.f1]), (16, .tv (fzL 3 c48 v1.f1)), (17, .tv (.int .i64 (v1.f1.length : Int))), (18, .tv (.int .i64 v4))], []⟩ ?_ (Nat.zero_le _) ?_
        · kernel_rfl
        refine AWp.skip ?_
        refine AWp.seq ?_
        refine AWp.block ?_
        refine AWp.seq ?_
        obtain ⟨hg, h⟩ := of_guard h
        refine AWp.start [0, 1, 2, 3, 4, 5] [] [(0 : Int) ≤ v4, v4 < (v1.f1.length : Int)] [1, 3, 4, 16, 17, 18] 1 ⟨[(1, .rp [.str v1.f0, fzL 3 c48 v1.f1]), (3, .tv (.int .i64 v4)), (4, .pc 0 0), (16, .tv (fzL 3 c48 v1.f1)), (17, .tv (.int .i64 (v1.f1.length : Int))), (18, .tv (.int .i64 v4))], [.cells 49 [.int .i64 ((v1.f1.getD v4.toNat default).f0), .int .i64 ((v1.f1.getD v4.toNat default).f1), .bool ((v1.f1.getD v4.toNat default).f2)]]⟩ rfl ?_ (Nat.zero_le _) ⟨hg.1, hg.2⟩ ?_
        · kernel_rfl
        refine AOps.nil ?_
        refine AWp.seq ?_
        refine AWp.pin 0 rfl rfl ?_
        refine AWp.keepTo [1, 3, 4, 16, 17, 18] 0 ⟨[(1, .rp [.str v1.f0, fzL 3 c48 v1.f1]), (3, .tv (.int .i64 v4)), (4, .rp [.int .i64 ((v1.f1.getD v4.toNat default).f0), .int .i64 ((v1.f1.getD v4.toNat default).f1), .bool ((v1.f1.getD v4.toNat default).f2)]), (16, .tv (fzL 3 c48 v1.f1)), (17, .tv (.int .i64 (v1.f1.length : Int))), (18, .tv (.int .i64 v4))], []⟩ ?_ (Nat.zero_le _) ?_
        · kernel_rfl
        refine AWp.start [0] [1, 2, 3, 4, 5, 6, 7, 8, 9, 10, 11, 12, 13, 14, 15, 16, 17, 18, 19, 20, 21, 22, 23, 24, 25, 26, 27, 28, 29] [] [1, 3, 4, 16, 17, 18, 23] 0 ⟨[(1, .rp [.str v1.f0, fzL 3 c48 v1.f1]), (3, .tv (.int .i64 v4)), (4, .rp [.int .i64 ((v1.f1.getD v4.toNat default).f0), .int .i64 ((v1.f1.getD v4.toNat default).f1), .bool ((v1.f1.getD v4.toNat default).f2)]), (16, .tv (fzL 3 c48 v1.f1)), (17, .tv (.int .i64 (v1.f1.length : Int))), (18, .tv (.int .i64 v4)), (23, .agg [.int .i64 ((v1.f1.getD v4.toNat default).f0), .int .i64 ((v1.f1.getD v4.toNat default).f1), .bool ((v1.f1.getD v4.toNat default).f2)])], []⟩ rfl ?_ (Nat.zero_le _) trivial ?_
        · kernel_rfl
        obtain ⟨v5, hv5, h⟩ := of_bind h
        refine AOps.cons (AOne.callP (F := (FF 54 0)) _ rfl rfl rfl _ rfl rfl _ _ rfl Try.call39 [.agg [.int .i64 ((v1.f1.getD v4.toNat default).f0), .int .i64 ((v1.f1.getD v4.toNat default).f1), .bool ((v1.f1.getD v4.toNat default).f2)], .tv (.int .i64 (-1 : Int))] rfl rfl (f39_ok (v1.f1.getD v4.toNat default) (-1 : Int) hv5) rfl) ?_
        refine AOps.go [2, 3] [4, 5, 6, 7, 8, 9, 10, 11, 12, 13, 14, 15, 16, 17, 18, 19, 20, 21, 22, 23, 24, 25, 26, 27, 28, 29] [] [1, 3, 4, 16, 17, 18, 26] 0 ⟨[(1, .rp [.str v1.f0, fzL 3 c48 v1.f1]), (3, .tv (.int .i64 v4)), (4, .rp [.int .i64 ((v1.f1.getD v4.toNat default).f0), .int .i64 ((v1.f1.getD v4.toNat default).f1), .bool ((v1.f1.getD v4.toNat default).f2)]), (16, .tv (fzL 3 c48 v1.f1)), (17, .tv (.int .i64 (v1.f1.length : Int))), (18, .tv (.int .i64 v4)), (26, .tv (.bool (!v5)))], []⟩ ?_ (Nat.zero_le _) trivial ?_
        · kernel_rfl
        obtain ⟨v8, hc4, h⟩ := of_bind h
        refine AOps.cut [4, 5, 6, 7, 8, 9, 10, 11] [12, 13, 14, 15, 16, 17, 18, 19, 20, 21, 22, 23, 24, 25, 26, 27, 28, 29] (fun σ => σ = ⟨[(1, .rp [.str v1.f0, fzL 3 c48 v1.f1]), (3, .tv (.int .i64 v4)), (4, .rp [.int .i64 ((v1.f1.getD v4.toNat default).f0), .int .i64 ((v1.f1.getD v4.toNat default).f1), .bool ((v1.f1.getD v4.toNat default).f2)]), (16, .tv (fzL 3 c48 v1.f1)), (17, .tv (.int .i64 (v1.f1.length : Int))), (18, .tv (.int .i64 v4)), (34, .tv (.bool v8))], []⟩) ?_ fun σ' hJ => ?_
        · refine AOps.split (fun b => ⟨[(1, .rp [.str v1.f0, fzL 3 c48 v1.f1]), (3, .tv (.int .i64 v4)), (4, .rp [.int .i64 ((v1.f1.getD v4.toNat default).f0), .int .i64 ((v1.f1.getD v4.toNat default).f1), .bool ((v1.f1.getD v4.toNat default).f2)]), (16, .tv (fzL 3 c48 v1.f1)), (17, .tv (.int .i64 (v1.f1.length : Int))), (18, .tv (.int .i64 v4)), (26, .tv (.bool b))], []⟩) _ (fun hb => ?_) fun hb => ?_
          · replace hc4 := of_true hc4 hb
            refine AOps.go [4, 5, 6, 7, 8, 9, 10, 11] [] [] [1, 3, 4, 16, 17, 18, 34] 0 ⟨[(1, .rp [.str v1.f0, fzL 3 c48 v1.f1]), (3, .tv (.int .i64 v4)), (4, .rp [.int .i64 ((v1.f1.getD v4.toNat default).f0), .int .i64 ((v1.f1.getD v4.toNat default).f1), .bool ((v1.f1.getD v4.toNat default).f2)]), (16, .tv (fzL 3 c48 v1.f1)), (17, .tv (.int .i64 (v1.f1.length : Int))), (18, .tv (.int .i64 v4)), (34, .tv (.bool true))], []⟩ ?_ (Nat.zero_le _) trivial ?_
            · kernel_rfl
            cases hc4
            exact AOps.nil rfl
          · replace hc4 := of_false hc4 hb
            refine AOps.go [4] [5, 6, 7, 8, 9, 10, 11] [] [1, 3, 4, 16, 17, 18, 26, 27] 0 ⟨[(1, .rp [.str v1.f0, fzL 3 c48 v1.f1]), (3, .tv (.int .i64 v4)), (4, .rp [.int .i64 ((v1.f1.getD v4.toNat default).f0), .int .i64 ((v1.f1.getD v4.toNat default).f1), .bool ((v1.f1.getD v4.toNat default).f2)]), (16, .tv (fzL 3 c48 v1.f1)), (17, .tv (.int .i64 (v1.f1.length : Int))), (18, .tv (.int .i64 v4)), (26, .tv (.bool false)), (27, .agg [.str v1.f0, fzL 3 c48 v1.f1])], []⟩ ?_ (Nat.zero_le _) trivial ?_
            · kernel_rfl
            obtain ⟨v6, hv6, hc4⟩ := of_bind hc4
            refine AOps.cons (AOne.callP (F := (FF 54 0)) _ rfl rfl rfl _ rfl rfl _ _ rfl Try.call32 [.agg [.str v1.f0, fzL 3 c48 v1.f1]] rfl rfl (f32_ok v1 hv6) rfl) ?_
            refine AOps.go [6] [7, 8, 9, 10, 11] [] [1, 3, 4, 16, 17, 18, 26, 29] 0 ⟨[(1, .rp [.str v1.f0, fzL 3 c48 v1.f1]), (3, .tv (.int .i64 v4)), (4, .rp [.int .i64 ((v1.f1.getD v4.toNat default).f0), .int .i64 ((v1.f1.getD v4.toNat default).f1), .bool ((v1.f1.getD v4.toNat default).f2)]), (16, .tv (fzL 3 c48 v1.f1)), (17, .tv (.int .i64 (v1.f1.length : Int))), (18, .tv (.int .i64 v4)), (26, .tv (.bool false)), (29, .tv (.bool v6))], []⟩ ?_ (Nat.zero_le _) trivial ?_
            · kernel_rfl
            obtain ⟨v7, hc7, hc4⟩ := of_bind hc4
            refine AOps.cut [7, 8, 9, 10] [11] (fun σ => σ = ⟨[(1, .rp [.str v1.f0, fzL 3 c48 v1.f1]), (3, .tv (.int .i64 v4)), (4, .rp [.int .i64 ((v1.f1.getD v4.toNat default).f0), .int .i64 ((v1.f1.getD v4.toNat default).f1), .bool ((v1.f1.getD v4.toNat default).f2)]), (16, .tv (fzL 3 c48 v1.f1)), (17, .tv (.int .i64 (v1.f1.length : Int))), (18, .tv (.int .i64 v4)), (26, .tv (.bool false)), (33, .tv (.bool v7))], []⟩) ?_ fun σ' hJ => ?_
            · refine AOps.split (fun b => ⟨[(1, .rp [.str v1.f0, fzL 3 c48 v1.f1]), (3, .tv (.int .i64 v4)), (4, .rp [.int .i64 ((v1.f1.getD v4.toNat default).f0), .int .i64 ((v1.f1.getD v4.toNat default).f1), .bool ((v1.f1.getD v4.toNat default).f2)]), (16, .tv (fzL 3 c48 v1.f1)), (17, .tv (.int .i64 (v1.f1.length : Int))), (18, .tv (.int .i64 v4)), (26, .tv (.bool false)), (29, .tv (.bool b))], []⟩) _ (fun hb => ?_) fun hb => ?_
              · replace hc7 := of_true hc7 hb
                refine AOps.go [7, 8, 9, 10] [] [] [1, 3, 4, 16, 17, 18, 26, 33] 0 ⟨[(1, .rp [.str v1.f0, fzL 3 c48 v1.f1]), (3, .tv (.int .i64 v4)), (4, .rp [.int .i64 ((v1.f1.getD v4.toNat default).f0), .int .i64 ((v1.f1.getD v4.toNat default).f1), .bool ((v1.f1.getD v4.toNat default).f2)]), (16, .tv (fzL 3 c48 v1.f1)), (17, .tv (.int .i64 (v1.f1.length : Int))), (18, .tv (.int .i64 v4)), (26, .tv (.bool false)), (33, .tv (.bool ((v1.f1.getD v4.toNat default).f1 != (-1 : Int))))], []⟩ ?_ (Nat.zero_le _) trivial ?_
                · kernel_rfl
                cases hc7
                exact AOps.nil rfl
              · replace hc7 := of_false hc7 hb
                refine AOps.go [7, 8, 9, 10] [] [] [1, 3, 4, 16, 17, 18, 26, 33] 0 ⟨[(1, .rp [.str v1.f0, fzL 3 c48 v1.f1]), (3, .tv (.int .i64 v4)), (4, .rp [.int .i64 ((v1.f1.getD v4.toNat default).f0), .int .i64 ((v1.f1.getD v4.toNat default).f1), .bool ((v1.f1.getD v4.toNat default).f2)]), (16, .tv (fzL 3 c48 v1.f1)), (17, .tv (.int .i64 (v1.f1.length : Int))), (18, .tv (.int .i64 v4)), (26, .tv (.bool false)), (33, .tv (.bool false))], []⟩ ?_ (Nat.zero_le _) trivial ?_
                · kernel_rfl
                cases hc7
                exact AOps.nil rfl
            subst hJ
            refine AOps.go [11] [] [] [1, 3, 4, 16, 17, 18, 34] 0 ⟨[(1, .rp [.str v1.f0, fzL 3 c48 v1.f1]), (3, .tv (.int .i64 v4)), (4, .rp [.int .i64 ((v1.f1.getD v4.toNat default).f0), .int .i64 ((v1.f1.getD v4.toNat default).f1), .bool ((v1.f1.getD v4.toNat default).f2)]), (16, .tv (fzL 3 c48 v1.f1)), (17, .tv (.int .i64 (v1.f1.length : Int))), (18, .tv (.int .i64 v4)), (34, .tv (.bool v7))], []⟩ ?_ (Nat.zero_le _) trivial ?_
            · kernel_rfl
            cases hc4
            exact AOps.nil rfl
        subst hJ
        refine AOps.go [12] [13, 14, 15, 16, 17, 18, 19, 20, 21, 22, 23, 24, 25, 26, 27, 28, 29] [] [1, 3, 4, 16, 17, 18, 35] 0 ⟨[(1, .rp [.str v1.f0, fzL 3 c48 v1.f1]), (3, .tv (.int .i64 v4)), (4, .rp [.int .i64 ((v1.f1.getD v4.toNat default).f0), .int .i64 ((v1.f1.getD v4.toNat default).f1), .bool ((v1.f1.getD v4.toNat default).f2)]), (16, .tv (fzL 3 c48 v1.f1)), (17, .tv (.int .i64 (v1.f1.length : Int))), (18, .tv (.int .i64 v4)), (35, .tv (.bool v8))], []⟩ ?_ (Nat.zero_le _) trivial ?_
        · kernel_rfl
        obtain ⟨v11, hc13, h⟩ := of_bind h
        refine AOps.cut [13, 14, 15, 16, 17, 18, 19, 20, 21, 22, 23, 24, 25, 26, 27, 28, 29] [] (fun σ => σ = ⟨[(1, .rp [.str v1.f0, fzL 3 c48 v1.f1]), (16, .tv (fzL 3 c48 v1.f1)), (17, .tv (.int .i64 (v1.f1.length : Int))), (18, .tv (.int .i64 v4)), (52, .tv (.bool v11))], []⟩) ?_ fun σ' hJ => ?_
        · refine AOps.split (fun b => ⟨[(1, .rp [.str v1.f0, fzL 3 c48 v1.f1]), (3, .tv (.int .i64 v4)), (4, .rp [.int .i64 ((v1.f1.getD v4.toNat default).f0), .int .i64 ((v1.f1.getD v4.toNat default).f1), .bool ((v1.f1.getD v4.toNat default).f2)]), (16, .tv (fzL 3 c48 v1.f1)), (17, .tv (.int .i64 (v1.f1.length : Int))), (18, .tv (.int .i64 v4)), (35, .tv (.bool b))], []⟩) _ (fun hb => ?_) fun hb => ?_
          · replace hc13 := of_true hc13 hb
            refine AOps.go [13, 14, 15, 16, 17, 18, 19, 20, 21, 22, 23, 24, 25, 26, 27, 28, 29] [] [] [1, 16, 17, 18, 52] 0 ⟨[(1, .rp [.str v1.f0, fzL 3 c48 v1.f1]), (16, .tv (fzL 3 c48 v1.f1)), (17, .tv (.int .i64 (v1.f1.length : Int))), (18, .tv (.int .i64 v4)), (52, .tv (.bool true))], []⟩ ?_ (Nat.zero_le _) trivial ?_
            · kernel_rfl
            cases hc13
            exact AOps.nil rfl
          · replace hc13 := of_false hc13 hb
            refine AOps.go [13, 14, 15] [16, 17, 18, 19, 20, 21, 22, 23, 24, 25, 26, 27, 28, 29] [] [1, 3, 4, 16, 17, 18, 35, 38] 0 ⟨[(1, .rp [.str v1.f0, fzL 3 c48 v1.f1]), (3, .tv (.int .i64 v4)), (4, .rp [.int .i64 ((v1.f1.getD v4.toNat default).f0), .int .i64 ((v1.f1.getD v4.toNat default).f1), .bool ((v1.f1.getD v4.toNat default).f2)]), (16, .tv (fzL 3 c48 v1.f1)), (17, .tv (.int .i64 (v1.f1.length : Int))), (18, .tv (.int .i64 v4)), (35, .tv (.bool false)), (38, .tv (.bool (decide (v4 > (0 : Int)))))], []⟩ ?_ (Nat.zero_le _) trivial ?_
            · kernel_rfl
            obtain ⟨v9, hc16, hc13⟩ := of_bind hc13
            refine AOps.cut [16, 17, 18, 19, 20, 21, 22, 23] [24, 25, 26, 27, 28, 29] (fun σ => σ = ⟨[(1, .rp [.str v1.f0, fzL 3 c48 v1.f1]), (4, .rp [.int .i64 ((v1.f1.getD v4.toNat default).f0), .int .i64 ((v1.f1.getD v4.toNat default).f1), .bool ((v1.f1.getD v4.toNat default).f2)]), (16, .tv (fzL 3 c48 v1.f1)), (17, .tv (.int .i64 (v1.f1.length : Int))), (18, .tv (.int .i64 v4)), (35, .tv (.bool false)), (46, .tv (.bool v9))], []⟩) ?_ fun σ' hJ => ?_
            · refine AOps.split (fun b => ⟨[(1, .rp [.str v1.f0, fzL 3 c48 v1.f1]), (3, .tv (.int .i64 v4)), (4, .rp [.int .i64 ((v1.f1.getD v4.toNat default).f0), .int .i64 ((v1.f1.getD v4.toNat default).f1), .bool ((v1.f1.getD v4.toNat default).f2)]), (16, .tv (fzL 3 c48 v1.f1)), (17, .tv (.int .i64 (v1.f1.length : Int))), (18, .tv (.int .i64 v4)), (35, .tv (.bool false)), (38, .tv (.bool b))], []⟩) _ (fun hb => ?_) fun hb => ?_
              · replace hc16 := of_true hc16 hb
                obtain ⟨hg, hc16⟩ := of_guard hc16
                refine AOps.go [16, 17, 18, 19, 20, 21, 22, 23] [] [(0 : Int) ≤ w64 (v4 - (1 : Int)), w64 (v4 - (1 : Int)) < (v1.f1.length : Int)] [1, 4, 16, 17, 18, 35, 46] 0 ⟨[(1, .rp [.str v1.f0, fzL 3 c48 v1.f1]), (4, .rp [.int .i64 ((v1.f1.getD v4.toNat default).f0), .int .i64 ((v1.f1.getD v4.toNat default).f1), .bool ((v1.f1.getD v4.toNat default).f2)]), (16, .tv (fzL 3 c48 v1.f1)), (17, .tv (.int .i64 (v1.f1.length : Int))), (18, .tv (.int .i64 v4)), (35, .tv (.bool false)), (46, .tv (.bool ((v1.f1.getD (Int.toNat (w64 (v4 - (1 : Int)))) default).f2)))], []⟩ ?_ (Nat.zero_le _) ⟨hg.1, hg.2⟩ ?_
                · kernel_rfl
                cases hc16
                exact AOps.nil rfl
              · replace hc16 := of_false hc16 hb
                refine AOps.go [16, 17, 18, 19, 20, 21, 22, 23] [] [] [1, 4, 16, 17, 18, 35, 46] 0 ⟨[(1, .rp [.str v1.f0, fzL 3 c48 v1.f1]), (4, .rp [.int .i64 ((v1.f1.getD v4.toNat default).f0), .int .i64 ((v1.f1.getD v4.toNat default).f1), .bool ((v1.f1.getD v4.toNat default).f2)]), (16, .tv (fzL 3 c48 v1.f1)), (17, .tv (.int .i64 (v1.f1.length : Int))), (18, .tv (.int .i64 v4)), (35, .tv (.bool false)), (46, .tv (.bool false))], []⟩ ?_ (Nat.zero_le _) trivial ?_
                · kernel_rfl
                cases hc16
                exact AOps.nil rfl
            subst hJ
            refine AOps.go [24] [25, 26, 27, 28, 29] [] [1, 4, 16, 17, 18, 35, 47] 0 ⟨[(1, .rp [.str v1.f0, fzL 3 c48 v1.f1]), (4, .rp [.int .i64 ((v1.f1.getD v4.toNat default).f0), .int .i64 ((v1.f1.getD v4.toNat default).f1), .bool ((v1.f1.getD v4.toNat default).f2)]), (16, .tv (fzL 3 c48 v1.f1)), (17, .tv (.int .i64 (v1.f1.length : Int))), (18, .tv (.int .i64 v4)), (35, .tv (.bool false)), (47, .tv (.bool v9))], []⟩ ?_ (Nat.zero_le _) trivial ?_
            · kernel_rfl
            obtain ⟨v10, hc25, hc13⟩ := of_bind hc13
            refine AOps.cut [25, 26, 27, 28] [29] (fun σ => σ = ⟨[(1, .rp [.str v1.f0, fzL 3 c48 v1.f1]), (16, .tv (fzL 3 c48 v1.f1)), (17, .tv (.int .i64 (v1.f1.length : Int))), (18, .tv (.int .i64 v4)), (35, .tv (.bool false)), (51, .tv (.bool v10))], []⟩) ?_ fun σ' hJ => ?_
            · refine AOps.split (fun b => ⟨[(1, .rp [.str v1.f0, fzL 3 c48 v1.f1]), (4, .rp [.int .i64 ((v1.f1.getD v4.toNat default).f0), .int .i64 ((v1.f1.getD v4.toNat default).f1), .bool ((v1.f1.getD v4.toNat default).f2)]), (16, .tv (fzL 3 c48 v1.f1)), (17, .tv (.int .i64 (v1.f1.length : Int))), (18, .tv (.int .i64 v4)), (35, .tv (.bool false)), (47, .tv (.bool b))], []⟩) _ (fun hb => ?_) fun hb => ?_
              · replace hc25 := of_true hc25 hb
                refine AOps.go [25, 26, 27, 28] [] [] [1, 16, 17, 18, 35, 51] 0 ⟨[(1, .rp [.str v1.f0, fzL 3 c48 v1.f1]), (16, .tv (fzL 3 c48 v1.f1)), (17, .tv (.int .i64 (v1.f1.length : Int))), (18, .tv (.int .i64 v4)), (35, .tv (.bool false)), (51, .tv (.bool (!((v1.f1.getD v4.toNat default).f2))))], []⟩ ?_ (Nat.zero_le _) trivial ?_
                · kernel_rfl
                cases hc25
                exact AOps.nil rfl
              · replace hc25 := of_false hc25 hb
                refine AOps.go [25, 26, 27, 28] [] [] [1, 16, 17, 18, 35, 51] 0 ⟨[(1, .rp [.str v1.f0, fzL 3 c48 v1.f1]), (16, .tv (fzL 3 c48 v1.f1)), (17, .tv (.int .i64 (v1.f1.length : Int))), (18, .tv (.int .i64 v4)), (35, .tv (.bool false)), (51, .tv (.bool false))], []⟩ ?_ (Nat.zero_le _) trivial ?_
                · kernel_rfl
                cases hc25
                exact AOps.nil rfl
            subst hJ
            refine AOps.go [29] [] [] [1, 16, 17, 18, 52] 0 ⟨[(1, .rp [.str v1.f0, fzL 3 c48 v1.f1]), (16, .tv (fzL 3 c48 v1.f1)), (17, .tv (.int .i64 (v1.f1.length : Int))), (18, .tv (.int .i64 v4)), (52, .tv (.bool v10))], []⟩ ?_ (Nat.zero_le _) trivial ?_
            · kernel_rfl
            cases hc13
            exact AOps.nil rfl
        subst hJ
        refine AOps.nil ?_
        refine AWp.cond rfl (fun hb => ?_) fun hb => ?_
        · replace h := of_true h hb
          refine AWp.keepTo [] 0 ⟨[], []⟩ ?_ (Nat.zero_le _) ?_
          · kernel_rfl
          refine AWp.seq ?_
          refine AWp.start [0] [] [] [2] 0 ⟨[(2, .tv (.bool false))], []⟩ rfl ?_ (Nat.zero_le _) trivial ?_
          · kernel_rfl
          refine AOps.nil ?_
          refine AWp.ret ?_
          cases h
          exact Or.inr ⟨_, rfl, by simp, rfl, rfl⟩
        · replace h := of_false h hb
          refine AWp.keepTo [1, 16, 17, 18] 0 ⟨[(1, .rp [.str v1.f0, fzL 3 c48 v1.f1]), (16, .tv (fzL 3 c48 v1.f1)), (17, .tv (.int .i64 (v1.f1.length : Int))), (18, .tv (.int .i64 v4))], []⟩ ?_ (Nat.zero_le _) ?_
          · kernel_rfl
          refine AWp.skip ?_
          refine AWp.start [0, 1] [] [] [1, 16, 17, 18] 0 ⟨[(1, .rp [.str v1.f0, fzL 3 c48 v1.f1]), (16, .tv (fzL 3 c48 v1.f1)), (17, .tv (.int .i64 (v1.f1.length : Int))), (18, .tv (.int .i64 (w64 (v4 + (1 : Int)))))], []⟩ rfl ?_ (Nat.zero_le _) trivial ?_
          · kernel_rfl
          refine AOps.nil ?_
          cases h
          exact Or.inl ⟨_, rfl, rfl, rfl⟩
      · replace h := of_false h hb
        refine AWp.keepTo [] 0 ⟨[], []⟩ ?_ (Nat.zero_le _) ?_
        · kernel_rfl
        refine AWp.exit ?_
        cases h
        exact Or.inr ⟨_, rfl, by simp, rfl, rfl⟩
    · intro e σ hp
      rcases y with v12 | _
      · obtain ⟨rfl, rfl⟩ := hp
        cases h
        exact ⟨.inr rfl, rfl⟩
      · obtain ⟨rfl, rfl⟩ := hp
        refine AWp.seq ?_
        refine AWp.start [0] [] [] [2] 0 ⟨[(2, .tv (.bool true))], []⟩ rfl ?_ (Nat.zero_le _) trivial ?_
        · kernel_rfl
        refine AOps.nil ?_
        refine AWp.ret ?_
        cases h
        exact ⟨.inr rfl, rfl⟩

noncomputable def f51 (v1 : T31) (v2 : T31) : Option Bool :=
  some (v1.f0 == v2.f0)

theorem f51_ok (v1 : T31) (v2 : T31) {r : Bool} (h : f51 v1 v2 = some r) : ACall Try.prog 51 [.agg [.str v1.f0, fzL 3 c48 v1.f1], .rp [.str v2.f0, fzL 3 c48 v2.f1]] [] (.tv (.bool r)) [] := by
  refine ACall.of1 (FF 9 0) Try.func51 rfl Try.ntmps51 Try.results51 (Nat.le_of_ble_eq_true rfl) rfl rfl ?_
  refine AWp.seq ?_
  refine AWp.start [0, 1] [] [] [1, 2] 1 ⟨[(1, .rp [.str v2.f0, fzL 3 c48 v2.f1]), (2, .pc 0 0)], [.cells 32 [.str v1.f0, fzL 3 c48 v1.f1]]⟩ rfl ?_ (Nat.zero_le _) trivial ?_
  · kernel_rfl
  refine AOps.nil ?_
  refine AWp.seq ?_
  refine AWp.pin 0 rfl rfl ?_
  refine AWp.keepTo [1, 2] 0 ⟨[(1, .rp [.str v2.f0, fzL 3 c48 v2.f1]), (2, .rp [.str v1.f0, fzL 3 c48 v1.f1])], []⟩ ?_ (Nat.zero_le _) ?_
  · kernel_rfl
  refine AWp.start [0, 1, 2, 3, 4, 5] [] [] [3] 0 ⟨[(3, .tv (.bool (v1.f0 == v2.f0)))], []⟩ rfl ?_ (Nat.zero_le _) trivial ?_
  · kernel_rfl
  refine AOps.nil ?_
  refine AWp.ret ?_
  cases h
  exact ⟨.inr rfl, rfl⟩

noncomputable def f63_51_b1 (v1 : List T31) (v2 : T31) (v3 : Int) : Option (Int ⊕ Out Int Unit) :=
  cond (decide (v3 < (v1.length : Int))) (if (0 : Int) ≤ v3 ∧ v3 < (v1.length : Int) then (f51 (v1.getD v3.toNat default) v2).bind fun v4 => cond v4 (some (.inr (.ret v3))) (some (.inl (w64 (v3 + (1 : Int))))) else none) (some (.inr (.go ())))

noncomputable def f63_51 (v1 : List T31) (v2 : T31) : Option Int :=
  (iter (fun s => f63_51_b1 v1 v2 s) (0 : Int)).bind fun y => match y with | .ret v5 => some v5 | .go _ => some (-1 : Int)

theorem f63_51_ok (v1 : List T31) (v2 : T31) {r : Int} (h : f63_51 v1 v2 = some r) : ACall Try.prog 63 [.tv (fzL 2 c31 v1), .fn 51 [.rp [.str v2.f0, fzL 3 c48 v2.f1]]] [] (.tv (.int .i64 r)) [] := by
  refine ACall.of1 (FF 19 0) Try.func63 rfl Try.ntmps63 Try.results63 (Nat.le_of_ble_eq_true rfl) rfl rfl ?_
  refine AWp.seq ?_
  refine AWp.start [0] [] [] [0, 1] 0 ⟨[(0, .tv (fzL 2 c31 v1)), (1, .fn 51 [.rp [.str v2.f0, fzL 3 c48 v2.f1]])], []⟩ rfl ?_ (Nat.zero_le _) trivial ?_
  · kernel_rfl
  refine AOps.nil ?_
  refine AWp.seq ?_
  refine AWp.seq ?_
  refine AWp.start [0, 1, 2] [] [] [0, 1, 7, 8] 0 ⟨[(0, .tv (fzL 2 c31 v1)), (1, .fn 51 [.rp [.str v2.f0, fzL 3 c48 v2.f1]]), (7, .tv (.int .i64 (v1.length : Int))), (8, .tv (.int .i64 (0 : Int)))], []⟩ rfl ?_ (Nat.zero_le _) trivial ?_
  · kernel_rfl
  refine AOps.nil ?_
  refine AWp.block ?_
  obtain ⟨y, hy, h⟩ := of_bind h
  refine AWp.mono (AWp.loop (S := Int) (Y := Out Int Unit) (fun s => ⟨[(0, .tv (fzL 2 c31 v1)), (1, .fn 51 [.rp [.str v2.f0, fzL 3 c48 v2.f1]]), (7, .tv (.int .i64 (v1.length : Int))), (8, .tv (.int .i64 s))], []⟩) (fun s => f63_51_b1 v1 v2 s) (fun y e σ => match y with | .ret r => e = .ret ∧ σ = ⟨[(4, .tv (.int .i64 r))], []⟩ | .go v => e = .exit 0 ∧ σ = ⟨[], []⟩) ?_ hy) ?_
  · rintro v3 o h
    refine AWp.seq ?_
    refine AWp.start [0] [] [] [0, 1, 7, 8, 9] 0 ⟨[(0, .tv (fzL 2 c31 v1)), (1, .fn 51 [.rp [.str v2.f0, fzL 3 c48 v2.f1]]), (7, .tv (.int .i64 (v1.length : Int))), (8, .tv (.int .i64 v3)), (9, .tv (.bool (decide (v3 < (v1.length : Int)))))], []⟩ rfl ?_ (Nat.zero_le _) trivial ?_
    · kernel_rfl
    refine AOps.nil ?_
    refine AWp.seq ?_
    refine AWp.cond rfl (fun hb => ?_) fun hb => ?_
    · replace h := of_true h hb
      refine AWp.keepTo [0, 1, 7, 8] 0 ⟨[(0, .tv (fzL 2 c31 v1)), (1, .fn 51 [.rp [.str v2.f0, fzL 3 c48 v2.f1]]), (7, .tv (.int .i64 (v1.length : Int))), (8, .tv (.int .i64 v3))], []⟩ ?_ (Nat.zero_le _) ?_
      · kernel_rfl
      refine AWp.skip ?_
      refine AWp.seq ?_
      refine AWp.block ?_
      refine AWp.seq ?_
      refine AWp.start [0, 1] [] [] [0, 1, 5, 7, 8] 0 ⟨[(0, .tv (fzL 2 c31 v1)), (1, .fn 51 [.rp [.str v2.f0, fzL 3 c48 v2.f1]]), (5, .tv (.int .i64 v3)), (7, .tv (.int .i64 (v1.length : Int))), (8, .tv (.int .i64 v3))], []⟩ rfl ?_ (Nat.zero_le _) trivial ?_
      · kernel_rfl
      refine AOps.nil ?_
      refine AWp.seq ?_
      obtain ⟨hg, h⟩ := of_guard h
      refine AWp.start [0, 1, 2, 3, 4] [5] [(0 : Int) ≤ v3, v3 < (v1.length : Int)] [0, 1, 5, 7, 8, 11, 15] 0 ⟨[(0, .tv (fzL 2 c31 v1)), (1, .fn 51 [.rp [.str v2.f0, fzL 3 c48 v2.f1]]), (5, .tv (.int .i64 v3)), (7, .tv (.int .i64 (v1.length : Int))), (8, .tv (.int .i64 v3)), (11, .fn 51 [.rp [.str v2.f0, fzL 3 c48 v2.f1]]), (15, .agg [.str ((v1.getD v3.toNat default).f0), fzL 3 c48 ((v1.getD v3.toNat default).f1)])], []⟩ rfl ?_ (Nat.zero_le _) ⟨hg.1, hg.2⟩ ?_
      · kernel_rfl
      obtain ⟨v4, hv4, h⟩ := of_bind h
      refine AOps.cons (AOne.callP (F := (FF 19 0)) _ rfl rfl rfl _ rfl rfl _ _ rfl Try.call51 [.agg [.str ((v1.getD v3.toNat default).f0), fzL 3 c48 ((v1.getD v3.toNat default).f1)], .rp [.str v2.f0, fzL 3 c48 v2.f1]] rfl rfl (f51_ok (v1.getD v3.toNat default) v2 hv4) rfl) ?_
      refine AOps.keepTo [0, 1, 5, 7, 8, 16] 0 ⟨[(0, .tv (fzL 2 c31 v1)), (1, .fn 51 [.rp [.str v2.f0, fzL 3 c48 v2.f1]]), (5, .tv (.int .i64 v3)), (7, .tv (.int .i64 (v1.length : Int))), (8, .tv (.int .i64 v3)), (16, .tv (.bool v4))], []⟩ ?_ (Nat.zero_le _) ?_
      · kernel_rfl
      refine AOps.nil ?_
      refine AWp.cond rfl (fun hb => ?_) fun hb => ?_
      · replace h := of_true h hb
        refine AWp.keepTo [5] 0 ⟨[(5, .tv (.int .i64 v3))], []⟩ ?_ (Nat.zero_le _) ?_
        · kernel_rfl
        refine AWp.seq ?_
        refine AWp.start [0, 1] [] [] [4] 0 ⟨[(4, .tv (.int .i64 v3))], []⟩ rfl ?_ (Nat.zero_le _) trivial ?_
        · kernel_rfl
        refine AOps.nil ?_
        refine AWp.ret ?_
        cases h
        exact Or.inr ⟨_, rfl, by simp, rfl, rfl⟩
      · replace h := of_false h hb
        refine AWp.keepTo [0, 1, 7, 8] 0 ⟨[(0, .tv (fzL 2 c31 v1)), (1, .fn 51 [.rp [.str v2.f0, fzL 3 c48 v2.f1]]), (7, .tv (.int .i64 (v1.length : Int))), (8, .tv (.int .i64 v3))], []⟩ ?_ (Nat.zero_le _) ?_
        · kernel_rfl
        refine AWp.skip ?_
        refine AWp.start [0, 1] [] [] [0, 1, 7, 8] 0 ⟨[(0, .tv (fzL 2 c31 v1)), (1, .fn 51 [.rp [.str v2.f0, fzL 3 c48 v2.f1]]), (7, .tv (.int .i64 (v1.length : Int))), (8, .tv (.int .i64 (w64 (v3 + (1 : Int)))))], []⟩ rfl ?_ (Nat.zero_le _) trivial ?_
        · kernel_rfl
        refine AOps.nil ?_
        cases h
        exact Or.inl ⟨_, rfl, rfl, rfl⟩
    · replace h := of_false h hb
      refine AWp.keepTo [] 0 ⟨[], []⟩ ?_ (Nat.zero_le _) ?_
      · kernel_rfl
      refine AWp.exit ?_
      cases h
      exact Or.inr ⟨_, rfl, by simp, rfl, rfl⟩
  · intro e σ hp
    rcases y with v5 | _
    · obtain ⟨rfl, rfl⟩ := hp
      cases h
      exact ⟨.inr rfl, rfl⟩
    · obtain ⟨rfl, rfl⟩ := hp
      refine AWp.seq ?_
      refine AWp.start [0] [] [] [4] 0 ⟨[(4, .tv (.int .i64 (-1 : Int)))], []⟩ rfl ?_ (Nat.zero_le _) trivial ?_
      · kernel_rfl
      refine AOps.nil ?_
      refine AWp.ret ?_
      cases h
      exact ⟨.inr rfl, rfl⟩

noncomputable def f46_51 (v1 : List T31) (v2 : T31) : Option Bool :=
  (f63_51 v1 v2).bind fun v3 => some (decide (v3 ≥ (0 : Int)))

theorem f46_51_ok (v1 : List T31) (v2 : T31) {r : Bool} (h : f46_51 v1 v2 = some r) : ACall Try.prog 46 [.tv (fzL 2 c31 v1), .fn 51 [.rp [.str v2.f0, fzL 3 c48 v2.f1]]] [] (.tv (.bool r)) [] := by
  refine ACall.of1 (FF 9 0) Try.func46 rfl Try.ntmps46 Try.results46 (Nat.le_of_ble_eq_true rfl) rfl rfl ?_
  refine AWp.seq ?_
  refine AWp.start [0] [] [] [0, 1] 0 ⟨[(0, .tv (fzL 2 c31 v1)), (1, .fn 51 [.rp [.str v2.f0, fzL 3 c48 v2.f1]])], []⟩ rfl ?_ (Nat.zero_le _) trivial ?_
  · kernel_rfl
  refine AOps.nil ?_
  refine AWp.seq ?_
  refine AWp.start [0, 1] [2, 3, 4] [] [5, 6] 0 ⟨[(5, .tv (fzL 2 c31 v1)), (6, .fn 51 [.rp [.str v2.f0, fzL 3 c48 v2.f1]])], []⟩ rfl ?_ (Nat.zero_le _) trivial ?_
  · kernel_rfl
  obtain ⟨v3, hv3, h⟩ := of_bind h
  refine AOps.cons (AOne.callP (F := (FF 9 0)) _ rfl rfl rfl _ rfl rfl _ _ rfl Try.call63 [.tv (fzL 2 c31 v1), .fn 51 [.rp [.str v2.f0, fzL 3 c48 v2.f1]]] rfl rfl (f63_51_ok v1 v2 hv3) rfl) ?_
  refine AOps.go [3, 4] [] [] [4] 0 ⟨[(4, .tv (.bool (decide (v3 ≥ (0 : Int)))))], []⟩ ?_ (Nat.zero_le _) trivial ?_
  · kernel_rfl
  refine AOps.nil ?_
  refine AWp.ret ?_
  cases h
  exact ⟨.inr rfl, rfl⟩

noncomputable def f29_b1 (v1 : List T31) (v2 : Int) : Option (Int ⊕ Out Bool Unit) :=
  cond (decide (v2 < (v1.length : Int))) (if (0 : Int) ≤ v2 ∧ v2 < (v1.length : Int) then (f19 (v1.getD v2.toNat default)).bind fun v3 => (cond (!v3) (some true) (if (0 : Int) ≤ v2 ∧ v2 ≤ (v1.length : Int) then (f46_51 ((v1.take v2.toNat).drop 0) (v1.getD v2.toNat default)).bind fun v4 => some v4 else none)).bind fun v5 => cond v5 (some (.inr (.ret false))) (some (.inl (w64 (v2 + (1 : Int))))) else none) (some (.inr (.go ())))

noncomputable def f29 (v1 : List T31) : Option Bool :=
  (iter (fun s => f29_b1 v1 s) (0 : Int)).bind fun y => match y with | .ret v6 => some v6 | .go _ => some (decide ((v1.length : Int) ≤ (20 : Int)))

theorem f29_ok (v1 : List T31) {r : Bool} (h : f29 v1 = some r) : ACall Try.prog 29 [.tv (fzL 2 c31 v1)] [] (.tv (.bool r)) [] := by
  refine ACall.of1 (FF 26 0) Try.func29 rfl Try.ntmps29 Try.results29 (Nat.le_of_ble_eq_true rfl) rfl rfl ?_
  refine AWp.seq ?_
  refine AWp.start [0] [] [] [0] 0 ⟨[(0, .tv (fzL 2 c31 v1))], []⟩ rfl ?_ (Nat.zero_le _) trivial ?_
  · kernel_rfl
  refine AOps.nil ?_
  refine AWp.seq ?_
  refine AWp.seq ?_
  refine AWp.start [0, 1, 2] [] [] [0, 5, 6, 7] 0 ⟨[(0, .tv (fzL 2 c31 v1)), (5, .tv (fzL 2 c31 v1)), (6, .tv (.int .i64 (v1.length : Int))), (7, .tv (.int .i64 (0 : Int)))], []⟩ rfl ?_ (Nat.zero_le _) trivial ?_
  · kernel_rfl
  refine AOps.nil ?_
  refine AWp.block ?_
  obtain ⟨y, hy, h⟩ := of_bind h
  refine AWp.mono (AWp.loop (S := Int) (Y := Out Bool Unit) (fun s => ⟨[(0, .tv (fzL 2 c31 v1)), (5, .tv (fzL 2 c31 v1)), (6, .tv (.int .i64 (v1.length : Int))), (7, .tv (.int .i64 s))], []⟩) (fun s => f29_b1 v1 s) (fun y e σ => match y with | .ret r => e = .ret ∧ σ = ⟨[(2, .tv (.bool r))], []⟩ | .go v => e = .exit 0 ∧ σ = ⟨[(0, .tv (fzL 2 c31 v1))], []⟩) ?_ hy) ?_
  · rintro v2 o h
    refine AWp.seq ?_
    refine AWp.start [0] [] [] [0, 5, 6, 7, 8] 0 ⟨[(0, .tv (fzL 2 c31 v1)), (5, .tv (fzL 2 c31 v1)), (6, .tv (.int .i64 (v1.length : Int))), (7, .tv (.int .i64 v2)), (8, .tv (.bool (decide (v2 < (v1.length : Int)))))], []⟩ rfl ?_ (Nat.zero_le _) trivial ?_
    · kernel_rfl
    refine AOps.nil ?_
    refine AWp.seq ?_
    refine AWp.cond rfl (fun hb => ?_) fun hb => ?_
    · replace h := of_true h hb
      refine AWp.keepTo [0, 5, 6, 7] 0 ⟨[(0, .tv (fzL 2 c31 v1)), (5, .tv (fzL 2 c31 v1)), (6, .tv (.int .i64 (v1.length : Int))), (7, .tv (.int .i64 v2))], []⟩ ?_ (Nat.zero_le _) ?_
      · kernel_rfl
      refine AWp.skip ?_
      refine AWp.seq ?_
      refine AWp.block ?_
      refine AWp.seq ?_
      obtain ⟨hg, h⟩ := of_guard h
      refine AWp.start [0, 1, 2, 3, 4, 5] [] [(0 : Int) ≤ v2, v2 < (v1.length : Int)] [0, 3, 4, 5, 6, 7] 1 ⟨[(0, .tv (fzL 2 c31 v1)), (3, .tv (.int .i64 v2)), (4, .pc 0 0), (5, .tv (fzL 2 c31 v1)), (6, .tv (.int .i64 (v1.length : Int))), (7, .tv (.int .i64 v2))], [.cells 32 [.str ((v1.getD v2.toNat default).f0), fzL 3 c48 ((v1.getD v2.toNat default).f1)]]⟩ rfl ?_ (Nat.zero_le _) ⟨hg.1, hg.2⟩ ?_
      · kernel_rfl
      refine AOps.nil ?_
      refine AWp.seq ?_
      refine AWp.pin 0 rfl rfl ?_
      refine AWp.keepTo [0, 3, 4, 5, 6, 7] 0 ⟨[(0, .tv (fzL 2 c31 v1)), (3, .tv (.int .i64 v2)), (4, .rp [.str ((v1.getD v2.toNat default).f0), fzL 3 c48 ((v1.getD v2.toNat default).f1)]), (5, .tv (fzL 2 c31 v1)), (6, .tv (.int .i64 (v1.length : Int))), (7, .tv (.int .i64 v2))], []⟩ ?_ (Nat.zero_le _) ?_
      · kernel_rfl
      refine AWp.start [0] [1, 2, 3, 4, 5, 6, 7, 8, 9] [] [0, 3, 4, 5, 6, 7, 12] 0 ⟨[(0, .tv (fzL 2 c31 v1)), (3, .tv (.int .i64 v2)), (4, .rp [.str ((v1.getD v2.toNat default).f0), fzL 3 c48 ((v1.getD v2.toNat default).f1)]), (5, .tv (fzL 2 c31 v1)), (6, .tv (.int .i64 (v1.length : Int))), (7, .tv (.int .i64 v2)), (12, .agg [.str ((v1.getD v2.toNat default).f0), fzL 3 c48 ((v1.getD v2.toNat default).f1)])], []⟩ rfl ?_ (Nat.zero_le _) trivial ?_
      · kernel_rfl
      obtain ⟨v3, hv3, h⟩ := of_bind h
      refine AOps.cons (AOne.callP (F := (FF 26 0)) _ rfl rfl rfl _ rfl rfl _ _ rfl Try.call19 [.agg [.str ((v1.getD v2.toNat default).f0), fzL 3 c48 ((v1.getD v2.toNat default).f1)]] rfl rfl (f19_ok (v1.getD v2.toNat default) hv3) rfl) ?_
      refine AOps.go [2, 3] [4, 5, 6, 7, 8, 9] [] [0, 3, 4, 5, 6, 7, 15] 0 ⟨[(0, .tv (fzL 2 c31 v1)), (3, .tv (.int .i64 v2)), (4, .rp [.str ((v1.getD v2.toNat default).f0), fzL 3 c48 ((v1.getD v2.toNat default).f1)]), (5, .tv (fzL 2 c31 v1)), (6, .tv (.int .i64 (v1.length : Int))), (7, .tv (.int .i64 v2)), (15, .tv (.bool (!v3)))], []⟩ ?_ (Nat.zero_le _) trivial ?_
      · kernel_rfl
      obtain ⟨v5, hc4, h⟩ := of_bind h
      refine AOps.cut [4, 5, 6, 7, 8, 9] [] (fun σ => σ = ⟨[(0, .tv (fzL 2 c31 v1)), (5, .tv (fzL 2 c31 v1)), (6, .tv (.int .i64 (v1.length : Int))), (7, .tv (.int .i64 v2)), (21, .tv (.bool v5))], []⟩) ?_ fun σ' hJ => ?_
      · refine AOps.split (fun b => ⟨[(0, .tv (fzL 2 c31 v1)), (3, .tv (.int .i64 v2)), (4, .rp [.str ((v1.getD v2.toNat default).f0), fzL 3 c48 ((v1.getD v2.toNat default).f1)]), (5, .tv (fzL 2 c31 v1)), (6, .tv (.int .i64 (v1.length : Int))), (7, .tv (.int .i64 v2)), (15, .tv (.bool b))], []⟩) _ (fun hb => ?_) fun hb => ?_
        · replace hc4 := of_true hc4 hb
          refine AOps.go [4, 5, 6, 7, 8, 9] [] [] [0, 5, 6, 7, 21] 0 ⟨[(0, .tv (fzL 2 c31 v1)), (5, .tv (fzL 2 c31 v1)), (6, .tv (.int .i64 (v1.length : Int))), (7, .tv (.int .i64 v2)), (21, .tv (.bool true))], []⟩ ?_ (Nat.zero_le _) trivial ?_
          · kernel_rfl
          cases hc4
          exact AOps.nil rfl
        · replace hc4 := of_false hc4 hb
          obtain ⟨hg, hc4⟩ := of_guard hc4
          refine AOps.go [4, 5, 6] [7, 8, 9] [(0 : Int) ≤ (0 : Int), (0 : Int) ≤ v2, v2 ≤ (v1.length : Int)] [0, 4, 5, 6, 7, 15, 18] 0 ⟨[(0, .tv (fzL 2 c31 v1)), (4, .rp [.str ((v1.getD v2.toNat default).f0), fzL 3 c48 ((v1.getD v2.toNat default).f1)]), (5, .tv (fzL 2 c31 v1)), (6, .tv (.int .i64 (v1.length : Int))), (7, .tv (.int .i64 v2)), (15, .tv (.bool false)), (18, .tv (.fz 2 (v2.toNat - 0) (fun i => c31 (v1.getD (0 + i) default))))], []⟩ ?_ (Nat.zero_le _) ⟨(by decide : (0 : Int) ≤ (0 : Int)), hg.1, hg.2⟩ ?_
          · kernel_rfl
          have hb : v2.toNat ≤ v1.length := by have := hg.2; omega
          refine AOps.extFzL (s := 18) rfl (sub_len v1 0 v2.toNat hb) (sub_at c31 v1 0 v2.toNat hb) ?_
          refine AOps.go [7] [8, 9] [] [0, 5, 6, 7, 15, 18, 19] 0 ⟨[(0, .tv (fzL 2 c31 v1)), (5, .tv (fzL 2 c31 v1)), (6, .tv (.int .i64 (v1.length : Int))), (7, .tv (.int .i64 v2)), (15, .tv (.bool false)), (18, .tv (fzL 2 c31 ((v1.take v2.toNat).drop 0))), (19, .fn 51 [.rp [.str ((v1.getD v2.toNat default).f0), fzL 3 c48 ((v1.getD v2.toNat default).f1)]])], []⟩ ?_ (Nat.zero_le _) trivial ?_
          · kernel_rfl
          obtain ⟨v4, hv4, hc4⟩ := of_bind hc4
          refine AOps.cons (AOne.callP (F := (FF 26 0)) _ rfl rfl rfl _ rfl rfl _ _ rfl Try.call46 [.tv (fzL 2 c31 ((v1.take v2.toNat).drop 0)), .fn 51 [.rp [.str ((v1.getD v2.toNat default).f0), fzL 3 c48 ((v1.getD v2.toNat default).f1)]]] rfl rfl (f46_51_ok ((v1.take v2.toNat).drop 0) (v1.getD v2.toNat default) hv4) rfl) ?_
          refine AOps.go [9] [] [] [0, 5, 6, 7, 21] 0 ⟨[(0, .tv (fzL 2 c31 v1)), (5, .tv (fzL 2 c31 v1)), (6, .tv (.int .i64 (v1.length : Int))), (7, .tv (.int .i64 v2)), (21, .tv (.bool v4))], []⟩ ?_ (Nat.zero_le _) trivial ?_
          · kernel_rfl
          cases hc4
          exact AOps.nil rfl
      subst hJ
      refine AOps.nil ?_
      refine AWp.cond rfl (fun hb => ?_) fun hb => ?_
      · replace h := of_true h hb
        refine AWp.keepTo [] 0 ⟨[], []⟩ ?_ (Nat.zero_le _) ?_
        · kernel_rfl
        refine AWp.seq ?_
        refine AWp.start [0] [] [] [2] 0 ⟨[(2, .tv (.bool false))], []⟩ rfl ?_ (Nat.zero_le _) trivial ?_
        · kernel_rfl
        refine AOps.nil ?_
        refine AWp.ret ?_
        cases h
        exact Or.inr ⟨_, rfl, by simp, rfl, rfl⟩
      · replace h := of_false h hb
        refine AWp.keepTo [0, 5, 6, 7] 0 ⟨[(0, .tv (fzL 2 c31 v1)), (5, .tv (fzL 2 c31 v1)), (6, .tv (.int .i64 (v1.length : Int))), (7, .tv (.int .i64 v2))], []⟩ ?_ (Nat.zero_le _) ?_
        · kernel_rfl
        refine AWp.skip ?_
        refine AWp.start [0, 1] [] [] [0, 5, 6, 7] 0 ⟨[(0, .tv (fzL 2 c31 v1)), (5, .tv (fzL 2 c31 v1)), (6, .tv (.int .i64 (v1.length : Int))), (7, .tv (.int .i64 (w64 (v2 + (1 : Int)))))], []⟩ rfl ?_ (Nat.zero_le _) trivial ?_
        · kernel_rfl
        refine AOps.nil ?_
        cases h
        exact Or.inl ⟨_, rfl, rfl, rfl⟩
    · replace h := of_false h hb
      refine AWp.keepTo [0] 0 ⟨[(0, .tv (fzL 2 c31 v1))], []⟩ ?_ (Nat.zero_le _) ?_
      · kernel_rfl
      refine AWp.exit ?_
      cases h
      exact Or.inr ⟨_, rfl, by simp, rfl, rfl⟩
  · intro e σ hp
    rcases y with v6 | _
    · obtain ⟨rfl, rfl⟩ := hp
      cases h
      exact ⟨.inr rfl, rfl⟩
    · obtain ⟨rfl, rfl⟩ := hp
      refine AWp.seq ?_
      refine AWp.start [0, 1, 2, 3] [] [] [2] 0 ⟨[(2, .tv (.bool (decide ((v1.length : Int) ≤ (20 : Int)))))], []⟩ rfl ?_ (Nat.zero_le _) trivial ?_
      · kernel_rfl
      refine AOps.nil ?_
      refine AWp.ret ?_
      cases h
      exact ⟨.inr rfl, rfl⟩

noncomputable def f53 (v1 : T48) : Option Bool :=
  (f39 v1 (0 : Int)).bind fun v2 => some (!v2)

theorem f53_ok (v1 : T48) {r : Bool} (h : f53 v1 = some r) : ACall Try.prog 53 [.agg [.int .i64 v1.f0, .int .i64 v1.f1, .bool v1.f2]] [] (.tv (.bool r)) [] := by
  refine ACall.of1 (FF 6 0) Try.func53 rfl Try.ntmps53 Try.results53 (Nat.le_of_ble_eq_true rfl) rfl rfl ?_
  refine AWp.seq ?_
  refine AWp.start [0, 1] [] [] [1] 1 ⟨[(1, .pc 0 0)], [.cells 49 [.int .i64 v1.f0, .int .i64 v1.f1, .bool v1.f2]]⟩ rfl ?_ (Nat.zero_le _) trivial ?_
  · kernel_rfl
  refine AOps.nil ?_
  refine AWp.seq ?_
  refine AWp.pin 0 rfl rfl ?_
  refine AWp.keepTo [1] 0 ⟨[(1, .rp [.int .i64 v1.f0, .int .i64 v1.f1, .bool v1.f2])], []⟩ ?_ (Nat.zero_le _) ?_
  · kernel_rfl
  refine AWp.start [0] [1, 2, 3] [] [3] 0 ⟨[(3, .agg [.int .i64 v1.f0, .int .i64 v1.f1, .bool v1.f2])], []⟩ rfl ?_ (Nat.zero_le _) trivial ?_
  · kernel_rfl
  obtain ⟨v2, hv2, h⟩ := of_bind h
  refine AOps.cons (AOne.callP (F := (FF 6 0)) _ rfl rfl rfl _ rfl rfl _ _ rfl Try.call39 [.agg [.int .i64 v1.f0, .int .i64 v1.f1, .bool v1.f2], .tv (.int .i64 (0 : Int))] rfl rfl (f39_ok v1 (0 : Int) hv2) rfl) ?_
  refine AOps.go [2, 3] [] [] [2] 0 ⟨[(2, .tv (.bool (!v2)))], []⟩ ?_ (Nat.zero_le _) trivial ?_
  · kernel_rfl
  refine AOps.nil ?_
  refine AWp.ret ?_
  cases h
  exact ⟨.inr rfl, rfl⟩

noncomputable def f65_53_b1 (v1 : List T48) (v2 : Int) : Option (Int ⊕ Out Int Unit) :=
  cond (decide (v2 < (v1.length : Int))) (if (0 : Int) ≤ v2 ∧ v2 < (v1.length : Int) then (f53 (v1.getD v2.toNat default)).bind fun v3 => cond v3 (some (.inr (.ret v2))) (some (.inl (w64 (v2 + (1 : Int))))) else none) (some (.inr (.go ())))

noncomputable def f65_53 (v1 : List T48) : Option Int :=
  (iter (fun s => f65_53_b1 v1 s) (0 : Int)).bind fun y => match y with | .ret v4 => some v4 | .go _ => some (-1 : Int)

theorem f65_53_ok (v1 : List T48) {r : Int} (h : f65_53 v1 = some r) : ACall Try.prog 65 [.tv (fzL 3 c48 v1), .fn 53 []] [] (.tv (.int .i64 r)) [] := by
  refine ACall.of1 (FF 19 0) Try.func65 rfl Try.ntmps65 Try.results65 (Nat.le_of_ble_eq_true rfl) rfl rfl ?_
  refine AWp.seq ?_
  refine AWp.start [0] [] [] [0, 1] 0 ⟨[(0, .tv (fzL 3 c48 v1)), (1, .fn 53 [])], []⟩ rfl ?_ (Nat.zero_le _) trivial ?_
  · kernel_rfl
  refine AOps.nil ?_
  refine AWp.seq ?_
  refine AWp.seq ?_
  refine AWp.start [0, 1, 2] [] [] [0, 1, 7, 8] 0 ⟨[(0, .tv (fzL 3 c48 v1)), (1, .fn 53 []), (7, .tv (.int .i64 (v1.length : Int))), (8, .tv (.int .i64 (0 : Int)))], []⟩ rfl ?_ (Nat.zero_le _) trivial ?_
  · kernel_rfl
  refine AOps.nil ?_
  refine AWp.block ?_
  obtain ⟨y, hy, h⟩ := of_bind h
  refine AWp.mono (AWp.loop (S := Int) (Y := Out Int Unit) (fun s => ⟨[(0, .tv (fzL 3 c48 v1)), (1, .fn 53 []), (7, .tv (.int .i64 (v1.length : Int))), (8, .tv (.int .i64 s))], []⟩) (fun s => f65_53_b1 v1 s) (fun y e σ => match y with | .ret r => e = .ret ∧ σ = ⟨[(4, .tv (.int .i64 r))], []⟩ | .go v => e = .exit 0 ∧ σ = ⟨[], []⟩) ?_ hy) ?_
  · rintro v2 o h
    refine AWp.seq ?_
    refine AWp.start [0] [] [] [0, 1, 7, 8, 9] 0 ⟨[(0, .tv (fzL 3 c48 v1)), (1, .fn 53 []), (7, .tv (.int .i64 (v1.length : Int))), (8, .tv (.int .i64 v2)), (9, .tv (.bool (decide (v2 < (v1.length : Int)))))], []⟩ rfl ?_ (Nat.zero_le _) trivial ?_
    · kernel_rfl
    refine AOps.nil ?_
    refine AWp.seq ?_
    refine AWp.cond rfl (fun hb => ?_) fun hb => ?_
    · replace h := of_true h hb
      refine AWp.keepTo [0, 1, 7, 8] 0 ⟨[(0, .tv (fzL 3 c48 v1)), (1, .fn 53 []), (7, .tv (.int .i64 (v1.length : Int))), (8, .tv (.int .i64 v2))], []⟩ ?_ (Nat.zero_le _) ?_
      · kernel_rfl
      refine AWp.skip ?_
      refine AWp.seq ?_
      refine AWp.block ?_
      refine AWp.seq ?_
      refine AWp.start [0, 1] [] [] [0, 1, 5, 7, 8] 0 ⟨[(0, .tv (fzL 3 c48 v1)), (1, .fn 53 []), (5, .tv (.int .i64 v2)), (7, .tv (.int .i64 (v1.length : Int))), (8, .tv (.int .i64 v2))], []⟩ rfl ?_ (Nat.zero_le _) trivial ?_
      · kernel_rfl
      refine AOps.nil ?_
      refine AWp.seq ?_
      obtain ⟨hg, h⟩ := of_guard h
      refine AWp.start [0, 1, 2, 3, 4] [5] [(0 : Int) ≤ v2, v2 < (v1.length : Int)] [0, 1, 5, 7, 8, 11, 15] 0 ⟨[(0, .tv (fzL 3 c48 v1)), (1, .fn 53 []), (5, .tv (.int .i64 v2)), (7, .tv (.int .i64 (v1.length : Int))), (8, .tv (.int .i64 v2)), (11, .fn 53 []), (15, .agg [.int .i64 ((v1.getD v2.toNat default).f0), .int .i64 ((v1.getD v2.toNat default).f1), .bool ((v1.getD v2.toNat default).f2)])], []⟩ rfl ?_ (Nat.zero_le _) ⟨hg.1, hg.2⟩ ?_
      · kernel_rfl
      obtain ⟨v3, hv3, h⟩ := of_bind h
      refine AOps.cons (AOne.callP (F := (FF 19 0)) _ rfl rfl rfl _ rfl rfl _ _ rfl Try.call53 [.agg [.int .i64 ((v1.getD v2.toNat default).f0), .int .i64 ((v1.getD v2.toNat default).f1), .bool ((v1.getD v2.toNat default).f2)]] rfl rfl (f53_ok (v1.getD v2.toNat default) hv3) rfl) ?_
      refine AOps.keepTo [0, 1, 5, 7, 8, 16] 0 ⟨[(0, .tv (fzL 3 c48 v1)), (1, .fn 53 []), (5, .tv (.int .i64 v2)), (7, .tv (.int .i64 (v1.length : Int))), (8, .tv (.int .i64 v2)), (16, .tv (.bool v3))], []⟩ ?_ (Nat.zero_le _) ?_
      · kernel_rfl
      refine AOps.nil ?_
      refine AWp.cond rfl (fun hb => ?_) fun hb => ?_
      · replace h := of_true h hb
        refine AWp.keepTo [5] 0 ⟨[(5, .tv (.int .i64 v2))], []⟩ ?_ (Nat.zero_le _) ?_
        · kernel_rfl
        refine AWp.seq ?_
        refine AWp.start [0, 1] [] [] [4] 0 ⟨[(4, .tv (.int .i64 v2))], []⟩ rfl ?_ (Nat.zero_le _) trivial ?_
        · kernel_rfl
        refine AOps.nil ?_
        refine AWp.ret ?_
        cases h
        exact Or.inr ⟨_, rfl, by simp, rfl, rfl⟩
      · replace h := of_false h hb
        refine AWp.keepTo [0, 1, 7, 8] 0 ⟨[(0, .tv (fzL 3 c48 v1)), (1, .fn 53 []), (7, .tv (.int .i64 (v1.length : Int))), (8, .tv (.int .i64 v2))], []⟩ ?_ (Nat.zero_le _) ?_
        · kernel_rfl
        refine AWp.skip ?_
        refine AWp.start [0, 1] [] [] [0, 1, 7, 8] 0 ⟨[(0, .tv (fzL 3 c48 v1)), (1, .fn 53 []), (7, .tv (.int .i64 (v1.length : Int))), (8, .tv (.int .i64 (w64 (v2 + (1 : Int)))))], []⟩ rfl ?_ (Nat.zero_le _) trivial ?_
        · kernel_rfl
        refine AOps.nil ?_
        cases h
        exact Or.inl ⟨_, rfl, rfl, rfl⟩
    · replace h := of_false h hb
      refine AWp.keepTo [] 0 ⟨[], []⟩ ?_ (Nat.zero_le _) ?_
      · kernel_rfl
      refine AWp.exit ?_
      cases h
      exact Or.inr ⟨_, rfl, by simp, rfl, rfl⟩
  · intro e σ hp
    rcases y with v4 | _
    · obtain ⟨rfl, rfl⟩ := hp
      cases h
      exact ⟨.inr rfl, rfl⟩
    · obtain ⟨rfl, rfl⟩ := hp
      refine AWp.seq ?_
      refine AWp.start [0] [] [] [4] 0 ⟨[(4, .tv (.int .i64 (-1 : Int)))], []⟩ rfl ?_ (Nat.zero_le _) trivial ?_
      · kernel_rfl
      refine AOps.nil ?_
      refine AWp.ret ?_
      cases h
      exact ⟨.inr rfl, rfl⟩

noncomputable def f52_53 (v1 : List T48) : Option Bool :=
  (f65_53 v1).bind fun v2 => some (decide (v2 ≥ (0 : Int)))

theorem f52_53_ok (v1 : List T48) {r : Bool} (h : f52_53 v1 = some r) : ACall Try.prog 52 [.tv (fzL 3 c48 v1), .fn 53 []] [] (.tv (.bool r)) [] := by
  refine ACall.of1 (FF 9 0) Try.func52 rfl Try.ntmps52 Try.results52 (Nat.le_of_ble_eq_true rfl) rfl rfl ?_
  refine AWp.seq ?_
  refine AWp.start [0] [] [] [0, 1] 0 ⟨[(0, .tv (fzL 3 c48 v1)), (1, .fn 53 [])], []⟩ rfl ?_ (Nat.zero_le _) trivial ?_
  · kernel_rfl
  refine AOps.nil ?_
  refine AWp.seq ?_
  refine AWp.start [0, 1] [2, 3, 4] [] [5, 6] 0 ⟨[(5, .tv (fzL 3 c48 v1)), (6, .fn 53 [])], []⟩ rfl ?_ (Nat.zero_le _) trivial ?_
  · kernel_rfl
  obtain ⟨v2, hv2, h⟩ := of_bind h
  refine AOps.cons (AOne.callP (F := (FF 9 0)) _ rfl rfl rfl _ rfl rfl _ _ rfl Try.call65 [.tv (fzL 3 c48 v1), .fn 53 []] rfl rfl (f65_53_ok v1 hv2) rfl) ?_
  refine AOps.go [3, 4] [] [] [4] 0 ⟨[(4, .tv (.bool (decide (v2 ≥ (0 : Int)))))], []⟩ ?_ (Nat.zero_le _) trivial ?_
  · kernel_rfl
  refine AOps.nil ?_
  refine AWp.ret ?_
  cases h
  exact ⟨.inr rfl, rfl⟩

noncomputable def f30 (v1 : List T48) : Option Bool :=
  (cond (decide ((v1.length : Int) ≤ (8 : Int))) ((f52_53 v1).bind fun v2 => some (!v2)) (some false)).bind fun v3 => some v3

theorem f30_ok (v1 : List T48) {r : Bool} (h : f30 v1 = some r) : ACall Try.prog 30 [.tv (fzL 3 c48 v1)] [] (.tv (.bool r)) [] := by
  refine ACall.of1 (FF 11 0) Try.func30 rfl Try.ntmps30 Try.results30 (Nat.le_of_ble_eq_true rfl) rfl rfl ?_
  refine AWp.seq ?_
  refine AWp.start [0] [] [] [0] 0 ⟨[(0, .tv (fzL 3 c48 v1))], []⟩ rfl ?_ (Nat.zero_le _) trivial ?_
  · kernel_rfl
  refine AOps.nil ?_
  refine AWp.seq ?_
  refine AWp.start [0, 1, 2, 3] [4, 5, 6, 7, 8] [] [0, 6] 0 ⟨[(0, .tv (fzL 3 c48 v1)), (6, .tv (.bool (decide ((v1.length : Int) ≤ (8 : Int)))))], []⟩ rfl ?_ (Nat.zero_le _) trivial ?_
  · kernel_rfl
  obtain ⟨v3, hc4, h⟩ := of_bind h
  refine AOps.cut [4, 5, 6, 7] [8] (fun σ => σ = ⟨[(10, .tv (.bool v3))], []⟩) ?_ fun σ' hJ => ?_
  · refine AOps.split (fun b => ⟨[(0, .tv (fzL 3 c48 v1)), (6, .tv (.bool b))], []⟩) _ (fun hb => ?_) fun hb => ?_
    · replace hc4 := of_true hc4 hb
      refine AOps.go [4] [5, 6, 7] [] [6, 7] 0 ⟨[(6, .tv (.bool true)), (7, .tv (fzL 3 c48 v1))], []⟩ ?_ (Nat.zero_le _) trivial ?_
      · kernel_rfl
      obtain ⟨v2, hv2, hc4⟩ := of_bind hc4
      refine AOps.cons (AOne.callP (F := (FF 11 0)) _ rfl rfl rfl _ rfl rfl _ _ rfl Try.call52 [.tv (fzL 3 c48 v1), .fn 53 []] rfl rfl (f52_53_ok v1 hv2) rfl) ?_
      refine AOps.go [6, 7] [] [] [10] 0 ⟨[(10, .tv (.bool (!v2)))], []⟩ ?_ (Nat.zero_le _) trivial ?_
      · kernel_rfl
      cases hc4
      exact AOps.nil rfl
    · replace hc4 := of_false hc4 hb
      refine AOps.go [4, 5, 6, 7] [] [] [10] 0 ⟨[(10, .tv (.bool false))], []⟩ ?_ (Nat.zero_le _) trivial ?_
      · kernel_rfl
      cases hc4
      exact AOps.nil rfl
  subst hJ
  refine AOps.go [8] [] [] [2] 0 ⟨[(2, .tv (.bool v3))], []⟩ ?_ (Nat.zero_le _) trivial ?_
  · kernel_rfl
  refine AOps.nil ?_
  refine AWp.ret ?_
  cases h
  exact ⟨.inr rfl, rfl⟩

noncomputable def f66 (v1 : T48) : Option Bool :=
  some v1.f2

theorem f66_ok (v1 : T48) {r : Bool} (h : f66 v1 = some r) : ACall Try.prog 66 [.agg [.int .i64 v1.f0, .int .i64 v1.f1, .bool v1.f2]] [] (.tv (.bool r)) [] := by
  refine ACall.of1 (FF 5 0) Try.func66 rfl Try.ntmps66 Try.results66 (Nat.le_of_ble_eq_true rfl) rfl rfl ?_
  refine AWp.seq ?_
  refine AWp.start [0, 1] [] [] [1] 1 ⟨[(1, .pc 0 0)], [.cells 49 [.int .i64 v1.f0, .int .i64 v1.f1, .bool v1.f2]]⟩ rfl ?_ (Nat.zero_le _) trivial ?_
  · kernel_rfl
  refine AOps.nil ?_
  refine AWp.seq ?_
  refine AWp.pin 0 rfl rfl ?_
  refine AWp.keepTo [1] 0 ⟨[(1, .rp [.int .i64 v1.f0, .int .i64 v1.f1, .bool v1.f2])], []⟩ ?_ (Nat.zero_le _) ?_
  · kernel_rfl
  refine AWp.start [0, 1, 2] [] [] [2] 0 ⟨[(2, .tv (.bool v1.f2))], []⟩ rfl ?_ (Nat.zero_le _) trivial ?_
  · kernel_rfl
  refine AOps.nil ?_
  refine AWp.ret ?_
  cases h
  exact ⟨.inr rfl, rfl⟩

noncomputable def f65_66_b1 (v1 : List T48) (v2 : Int) : Option (Int ⊕ Out Int Unit) :=
  cond (decide (v2 < (v1.length : Int))) (if (0 : Int) ≤ v2 ∧ v2 < (v1.length : Int) then (f66 (v1.getD v2.toNat default)).bind fun v3 => cond v3 (some (.inr (.ret v2))) (some (.inl (w64 (v2 + (1 : Int))))) else none) (some (.inr (.go ())))

noncomputable def f65_66 (v1 : List T48) : Option Int :=
  (iter (fun s => f65_66_b1 v1 s) (0 : Int)).bind fun y => match y with | .ret v4 => some v4 | .go _ => some (-1 : Int)

theorem f65_66_ok (v1 : List T48) {r : Int} (h : f65_66 v1 = some r) : ACall Try.prog 65 [.tv (fzL 3 c48 v1), .fn 66 []] [] (.tv (.int .i64 r)) [] := by
  refine ACall.of1 (FF 19 0) Try.func65 rfl Try.ntmps65 Try.results65 (Nat.le_of_ble_eq_true rfl) rfl rfl ?_
  refine AWp.seq ?_
  refine AWp.start [0] [] [] [0, 1] 0 ⟨[(0, .tv (fzL 3 c48 v1)), (1, .fn 66 [])], []⟩ rfl ?_ (Nat.zero_le _) trivial ?_
  · kernel_rfl
  refine AOps.nil ?_
  refine AWp.seq ?_
  refine AWp.seq ?_
  refine AWp.start [0, 1, 2] [] [] [0, 1, 7, 8] 0 ⟨[(0, .tv (fzL 3 c48 v1)), (1, .fn 66 []), (7, .tv (.int .i64 (v1.length : Int))), (8, .tv (.int .i64 (0 : Int)))], []⟩ rfl ?_ (Nat.zero_le _) trivial ?_
  · kernel_rfl
  refine AOps.nil ?_
  refine AWp.block ?_
  obtain ⟨y, hy, h⟩ := of_bind h
  refine AWp.mono (AWp.loop (S := Int) (Y := Out Int Unit) (fun s => ⟨[(0, .tv (fzL 3 c48 v1)), (1, .fn 66 []), (7, .tv (.int .i64 (v1.length : Int))), (8, .tv (.int .i64 s))], []⟩) (fun s => f65_66_b1 v1 s) (fun y e σ => match y with | .ret r => e = .ret ∧ σ = ⟨[(4, .tv (.int .i64 r))], []⟩ | .go v => e = .exit 0 ∧ σ = ⟨[], []⟩) ?_ hy) ?_
  · rintro v2 o h
    refine AWp.seq ?_
    refine AWp.start [0] [] [] [0, 1, 7, 8, 9] 0 ⟨[(0, .tv (fzL 3 c48 v1)), (1, .fn 66 []), (7, .tv (.int .i64 (v1.length : Int))), (8, .tv (.int .i64 v2)), (9, .tv (.bool (decide (v2 < (v1.length : Int)))))], []⟩ rfl ?_ (Nat.zero_le _) trivial ?_
    · kernel_rfl
    refine AOps.nil ?_
    refine AWp.seq ?_
    refine AWp.cond rfl (fun hb => ?_) fun hb => ?_
    · replace h := of_true h hb
      refine AWp.keepTo [0, 1, 7, 8] 0 ⟨[(0, .tv (fzL 3 c48 v1)), (1, .fn 66 []), (7, .tv (.int .i64 (v1.length : Int))), (8, .tv (.int .i64 v2))], []⟩ ?_ (Nat.zero_le _) ?_
      · kernel_rfl
      refine AWp.skip ?_
      refine AWp.seq ?_
      refine AWp.block ?_
      refine AWp.seq ?_
      refine AWp.start [0, 1] [] [] [0, 1, 5, 7, 8] 0 ⟨[(0, .tv (fzL 3 c48 v1)), (1, .fn 66 []), (5, .tv (.int .i64 v2)), (7, .tv (.int .i64 (v1.length : Int))), (8, .tv (.int .i64 v2))], []⟩ rfl ?_ (Nat.zero_le _) trivial ?_
      · kernel_rfl
      refine AOps.nil ?_
      refine AWp.seq ?_
      obtain ⟨hg, h⟩ := of_guard h
      refine AWp.start [0, 1, 2, 3, 4] [5] [(0 : Int) ≤ v2, v2 < (v1.length : Int)] [0, 1, 5, 7, 8, 11, 15] 0 ⟨[(0, .tv (fzL 3 c48 v1)), (1, .fn 66 []), (5, .tv (.int .i64 v2)), (7, .tv (.int .i64 (v1.length : Int))), (8, .tv (.int .i64 v2)), (11, .fn 66 []), (15, .agg [.int .i64 ((v1.getD v2.toNat default).f0), .int .i64 ((v1.getD v2.toNat default).f1), .bool ((v1.getD v2.toNat default).f2)])], []⟩ rfl ?_ (Nat.zero_le _) ⟨hg.1, hg.2⟩ ?_
      · kernel_rfl
      obtain ⟨v3, hv3, h⟩ := of_bind h
      refine AOps.cons (AOne.callP (F := (FF 19 0)) _ rfl rfl rfl _ rfl rfl _ _ rfl Try.call66 [.agg [.int .i64 ((v1.getD v2.toNat default).f0), .int .i64 ((v1.getD v2.toNat default).f1), .bool ((v1.getD v2.toNat default).f2)]] rfl rfl (f66_ok (v1.getD v2.toNat default) hv3) rfl) ?_
      refine AOps.keepTo [0, 1, 5, 7, 8, 16] 0 ⟨[(0, .tv (fzL 3 c48 v1)), (1, .fn 66 []), (5, .tv (.int .i64 v2)), (7, .tv (.int .i64 (v1.length : Int))), (8, .tv (.int .i64 v2)), (16, .tv (.bool v3))], []⟩ ?_ (Nat.zero_le _) ?_
      · kernel_rfl
      refine AOps.nil ?_
      refine AWp.cond rfl (fun hb => ?_) fun hb => ?_
      · replace h := of_true h hb
        refine AWp.keepTo [5] 0 ⟨[(5, .tv (.int .i64 v2))], []⟩ ?_ (Nat.zero_le _) ?_
        · kernel_rfl
        refine AWp.seq ?_
        refine AWp.start [0, 1] [] [] [4] 0 ⟨[(4, .tv (.int .i64 v2))], []⟩ rfl ?_ (Nat.zero_le _) trivial ?_
        · kernel_rfl
        refine AOps.nil ?_
        refine AWp.ret ?_
        cases h
        exact Or.inr ⟨_, rfl, by simp, rfl, rfl⟩
      · replace h := of_false h hb
        refine AWp.keepTo [0, 1, 7, 8] 0 ⟨[(0, .tv (fzL 3 c48 v1)), (1, .fn 66 []), (7, .tv (.int .i64 (v1.length : Int))), (8, .tv (.int .i64 v2))], []⟩ ?_ (Nat.zero_le _) ?_
        · kernel_rfl
        refine AWp.skip ?_
        refine AWp.start [0, 1] [] [] [0, 1, 7, 8] 0 ⟨[(0, .tv (fzL 3 c48 v1)), (1, .fn 66 []), (7, .tv (.int .i64 (v1.length : Int))), (8, .tv (.int .i64 (w64 (v2 + (1 : Int)))))], []⟩ rfl ?_ (Nat.zero_le _) trivial ?_
        · kernel_rfl
        refine AOps.nil ?_
        cases h
        exact Or.inl ⟨_, rfl, rfl, rfl⟩
    · replace h := of_false h hb
      refine AWp.keepTo [] 0 ⟨[], []⟩ ?_ (Nat.zero_le _) ?_
      · kernel_rfl
      refine AWp.exit ?_
      cases h
      exact Or.inr ⟨_, rfl, by simp, rfl, rfl⟩
  · intro e σ hp
    rcases y with v4 | _
    · obtain ⟨rfl, rfl⟩ := hp
      cases h
      exact ⟨.inr rfl, rfl⟩
    · obtain ⟨rfl, rfl⟩ := hp
      refine AWp.seq ?_
      refine AWp.start [0] [] [] [4] 0 ⟨[(4, .tv (.int .i64 (-1 : Int)))], []⟩ rfl ?_ (Nat.zero_le _) trivial ?_
      · kernel_rfl
      refine AOps.nil ?_
      refine AWp.ret ?_
      cases h
      exact ⟨.inr rfl, rfl⟩

noncomputable def f55 (v1 : T31) : Option Int :=
  (f65_66 v1.f1).bind fun v2 => cond (decide (v2 ≥ (0 : Int))) (some v2) (some (v1.f1.length : Int))

theorem f55_ok (v1 : T31) {r : Int} (h : f55 v1 = some r) : ACall Try.prog 55 [.agg [.str v1.f0, fzL 3 c48 v1.f1]] [] (.tv (.int .i64 r)) [] := by
  refine ACall.of1 (FF 13 0) Try.func55 rfl Try.ntmps55 Try.results55 (Nat.le_of_ble_eq_true rfl) rfl rfl ?_
  refine AWp.seq ?_
  refine AWp.start [0, 1] [] [] [1] 1 ⟨[(1, .pc 0 0)], [.cells 32 [.str v1.f0, fzL 3 c48 v1.f1]]⟩ rfl ?_ (Nat.zero_le _) trivial ?_
  · kernel_rfl
  refine AOps.nil ?_
  refine AWp.seq ?_
  refine AWp.seq ?_
  refine AWp.pin 0 rfl rfl ?_
  refine AWp.keepTo [1] 0 ⟨[(1, .rp [.str v1.f0, fzL 3 c48 v1.f1])], []⟩ ?_ (Nat.zero_le _) ?_
  · kernel_rfl
  refine AWp.start [0, 1] [2, 3] [] [1, 5] 0 ⟨[(1, .rp [.str v1.f0, fzL 3 c48 v1.f1]), (5, .tv (fzL 3 c48 v1.f1))], []⟩ rfl ?_ (Nat.zero_le _) trivial ?_
  · kernel_rfl
  obtain ⟨v2, hv2, h⟩ := of_bind h
  refine AOps.cons (AOne.callP (F := (FF 13 0)) _ rfl rfl rfl _ rfl rfl _ _ rfl Try.call65 [.tv (fzL 3 c48 v1.f1), .fn 66 []] rfl rfl (f65_66_ok v1.f1 hv2) rfl) ?_
  refine AOps.go [3] [] [] [1, 3] 0 ⟨[(1, .rp [.str v1.f0, fzL 3 c48 v1.f1]), (3, .tv (.int .i64 v2))], []⟩ ?_ (Nat.zero_le _) trivial ?_
  · kernel_rfl
  refine AOps.nil ?_
  refine AWp.seq ?_
  refine AWp.start [0, 1] [] [] [1, 3, 8] 0 ⟨[(1, .rp [.str v1.f0, fzL 3 c48 v1.f1]), (3, .tv (.int .i64 v2)), (8, .tv (.bool (decide (v2 ≥ (0 : Int)))))], []⟩ rfl ?_ (Nat.zero_le _) trivial ?_
  · kernel_rfl
  refine AOps.nil ?_
  refine AWp.cond rfl (fun hb => ?_) fun hb => ?_
  · replace h := of_true h hb
    refine AWp.keepTo [3] 0 ⟨[(3, .tv (.int .i64 v2))], []⟩ ?_ (Nat.zero_le _) ?_
    · kernel_rfl
    refine AWp.seq ?_
    refine AWp.start [0, 1] [] [] [2] 0 ⟨[(2, .tv (.int .i64 v2))], []⟩ rfl ?_ (Nat.zero_le _) trivial ?_
    · kernel_rfl
    refine AOps.nil ?_
    refine AWp.ret ?_
    cases h
    exact ⟨.inr rfl, rfl⟩
  · replace h := of_false h hb
    refine AWp.keepTo [1] 0 ⟨[(1, .rp [.str v1.f0, fzL 3 c48 v1.f1])], []⟩ ?_ (Nat.zero_le _) ?_
    · kernel_rfl
    refine AWp.skip ?_
    refine AWp.seq ?_
    refine AWp.start [0, 1, 2, 3] [] [] [2] 0 ⟨[(2, .tv (.int .i64 (v1.f1.length : Int)))], []⟩ rfl ?_ (Nat.zero_le _) trivial ?_
    · kernel_rfl
    refine AOps.nil ?_
    refine AWp.ret ?_
    cases h
    exact ⟨.inr rfl, rfl⟩

noncomputable def f33_j1 (v6 : Int) (v7 : Int) : Option ((Int × Int) ⊕ Out Bool Unit) :=
  some (.inl (v7, w64 (v6 + (1 : Int))))

noncomputable def f33_b2 (v1 : T31) (v2 : List T48) (v5 : Int) (v6 : Int) : Option ((Int × Int) ⊕ Out Bool Unit) :=
  cond (decide (v6 < (v2.length : Int))) (if (0 : Int) ≤ v6 ∧ v6 < (v2.length : Int) then if (0 : Int) ≤ v6 ∧ v6 < (v1.f1.length : Int) then (cond ((v2.getD v6.toNat default).f0 != (v1.f1.getD v6.toNat default).f0) (some true) ((cond ((v1.f1.getD v6.toNat default).f1 != (-1 : Int)) (some ((v2.getD v6.toNat default).f1 != (v1.f1.getD v6.toNat default).f1)) (some false)).bind fun v8 => some v8)).bind fun v9 => cond v9 (some (.inr (.ret false))) ((cond ((v1.f1.getD v6.toNat default).f1 != (-1 : Int)) (some true) (some ((v2.getD v6.toNat default).f1 == (0 : Int)))).bind fun v10 => cond v10 (f33_j1 v6 v5) ((cond (decide (v5 > (0 : Int))) (some (v5 != (v2.getD v6.toNat default).f1)) (some false)).bind fun v11 => cond v11 (some (.inr (.ret false))) (f33_j1 v6 ((v2.getD v6.toNat default).f1)))) else none else none) (some (.inr (.go ())))

noncomputable def f33 (v1 : T31) (v2 : List T48) : Option Bool :=
  (f55 v1).bind fun v3 => (cond (decide ((v2.length : Int) < v3)) (some true) (some (decide ((v2.length : Int) > (v1.f1.length : Int))))).bind fun v4 => cond v4 (some false) ((iter (fun s => f33_b2 v1 v2 s.1 s.2) ((0 : Int), (0 : Int))).bind fun y => match y with | .ret v12 => some v12 | .go _ => some true)

theorem f33_ok (v1 : T31) (v2 : List T48) {r : Bool} (h : f33 v1 v2 = some r) : ACall Try.prog 33 [.agg [.str v1.f0, fzL 3 c48 v1.f1], .tv (fzL 3 c48 v2)] [] (.tv (.bool r)) [] := by
  refine ACall.of1 (FF 70 0) Try.func33 rfl Try.ntmps33 Try.results33 (Nat.le_of_ble_eq_true rfl) rfl rfl ?_
  refine AWp.seq ?_
  refine AWp.start [0, 1] [] [] [1, 2] 1 ⟨[(1, .tv (fzL 3 c48 v2)), (2, .pc 0 0)], [.cells 32 [.str v1.f0, fzL 3 c48 v1.f1]]⟩ rfl ?_ (Nat.zero_le _) trivial ?_
  · kernel_rfl
  refine AOps.nil ?_
  refine AWp.seq ?_
  refine AWp.seq ?_
  refine AWp.pin 0 rfl rfl ?_
  refine AWp.keepTo [1, 2] 0 ⟨[(1, .tv (fzL 3 c48 v2)), (2, .rp [.str v1.f0, fzL 3 c48 v1.f1])], []⟩ ?_ (Nat.zero_le _) ?_
  · kernel_rfl
  refine AWp.start [0, 1, 2] [3, 4, 5, 6, 7, 8, 9, 10, 11, 12] [] [1, 2, 10, 11] 0 ⟨[(1, .tv (fzL 3 c48 v2)), (2, .rp [.str v1.f0, fzL 3 c48 v1.f1]), (10, .tv (.int .i64 (v2.length : Int))), (11, .agg [.str v1.f0, fzL 3 c48 v1.f1])], []⟩ rfl ?_ (Nat.zero_le _) trivial ?_
  · kernel_rfl
  obtain ⟨v3, hv3, h⟩ := of_bind h
  refine AOps.cons (AOne.callP (F := (FF 70 0)) _ rfl rfl rfl _ rfl rfl _ _ rfl Try.call55 [.agg [.str v1.f0, fzL 3 c48 v1.f1]] rfl rfl (f55_ok v1 hv3) rfl) ?_
  refine AOps.go [4, 5] [6, 7, 8, 9, 10, 11, 12] [] [1, 2, 14] 0 ⟨[(1, .tv (fzL 3 c48 v2)), (2, .rp [.str v1.f0, fzL 3 c48 v1.f1]), (14, .tv (.bool (decide ((v2.length : Int) < v3))))], []⟩ ?_ (Nat.zero_le _) trivial ?_
  · kernel_rfl
  obtain ⟨v4, hc6, h⟩ := of_bind h
  refine AOps.cut [6, 7, 8, 9, 10, 11, 12] [] (fun σ => σ = ⟨[(1, .tv (fzL 3 c48 v2)), (2, .rp [.str v1.f0, fzL 3 c48 v1.f1]), (21, .tv (.bool v4))], []⟩) ?_ fun σ' hJ => ?_
  · refine AOps.split (fun b => ⟨[(1, .tv (fzL 3 c48 v2)), (2, .rp [.str v1.f0, fzL 3 c48 v1.f1]), (14, .tv (.bool b))], []⟩) _ (fun hb => ?_) fun hb => ?_
    · replace hc6 := of_true hc6 hb
      refine AOps.go [6, 7, 8, 9, 10, 11, 12] [] [] [1, 2, 21] 0 ⟨[(1, .tv (fzL 3 c48 v2)), (2, .rp [.str v1.f0, fzL 3 c48 v1.f1]), (21, .tv (.bool true))], []⟩ ?_ (Nat.zero_le _) trivial ?_
      · kernel_rfl
      cases hc6
      exact AOps.nil rfl
    · replace hc6 := of_false hc6 hb
      refine AOps.go [6, 7, 8, 9, 10, 11, 12] [] [] [1, 2, 21] 0 ⟨[(1, .tv (fzL 3 c48 v2)), (2, .rp [.str v1.f0, fzL 3 c48 v1.f1]), (21, .tv (.bool (decide ((v2.length : Int) > (v1.f1.length : Int)))))], []⟩ ?_ (Nat.zero_le _) trivial ?_
      · kernel_rfl
      cases hc6
      exact AOps.nil rfl
  subst hJ
  refine AOps.nil ?_
  refine AWp.cond rfl (fun hb => ?_) fun hb => ?_
  · replace h := of_true h hb
    refine AWp.keepTo [] 0 ⟨[], []⟩ ?_ (Nat.zero_le _) ?_
    · kernel_rfl
    refine AWp.seq ?_
    refine AWp.start [0] [] [] [4] 0 ⟨[(4, .tv (.bool false))], []⟩ rfl ?_ (Nat.zero_le _) trivial ?_
    · kernel_rfl
    refine AOps.nil ?_
    refine AWp.ret ?_
    cases h
    exact ⟨.inr rfl, rfl⟩
  · replace h := of_false h hb
    refine AWp.keepTo [1, 2] 0 ⟨[(1, .tv (fzL 3 c48 v2)), (2, .rp [.str v1.f0, fzL 3 c48 v1.f1])], []⟩ ?_ (Nat.zero_le _) ?_
    · kernel_rfl
    refine AWp.skip ?_
    refine AWp.seq ?_
    refine AWp.start [0] [] [] [1, 2, 5] 0 ⟨[(1, .tv (fzL 3 c48 v2)), (2, .rp [.str v1.f0, fzL 3 c48 v1.f1]), (5, .tv (.int .i64 (0 : Int)))], []⟩ rfl ?_ (Nat.zero_le _) trivial ?_
    · kernel_rfl
    refine AOps.nil ?_
    refine AWp.seq ?_
    refine AWp.seq ?_
    refine AWp.start [0, 1, 2] [] [] [2, 5, 22, 23, 24] 0 ⟨[(2, .rp [.str v1.f0, fzL 3 c48 v1.f1]), (5, .tv (.int .i64 (0 : Int))), (22, .tv (fzL 3 c48 v2)), (23, .tv (.int .i64 (v2.length : Int))), (24, .tv (.int .i64 (0 : Int)))], []⟩ rfl ?_ (Nat.zero_le _) trivial ?_
    · kernel_rfl
    refine AOps.nil ?_
    refine AWp.block ?_
    obtain ⟨y, hy, h⟩ := of_bind h
    refine AWp.mono (AWp.loop (S := Int × Int) (Y := Out Bool Unit) (fun s => ⟨[(2, .rp [.str v1.f0, fzL 3 c48 v1.f1]), (5, .tv (.int .i64 s.1)), (22, .tv (fzL 3 c48 v2)), (23, .tv (.int .i64 (v2.length : Int))), (24, .tv (.int .i64 s.2))], []⟩) (fun s => f33_b2 v1 v2 s.1 s.2) (fun y e σ => match y with | .ret r => e = .ret ∧ σ = ⟨[(4, .tv (.bool r))], []⟩ | .go v => e = .exit 0 ∧ σ = ⟨[], []⟩) ?_ hy) ?_
    · rintro ⟨v5, v6⟩ o h
      refine AWp.seq ?_
      refine AWp.start [0] [] [] [2, 5, 22, 23, 24, 25] 0 ⟨[(2, .rp [.str v1.f0, fzL 3 c48 v1.f1]), (5, .tv (.int .i64 v5)), (22, .tv (fzL 3 c48 v2)), (23, .tv (.int .i64 (v2.length : Int))), (24, .tv (.int .i64 v6)), (25, .tv (.bool (decide (v6 < (v2.length : Int)))))], []⟩ rfl ?_ (Nat.zero_le _) trivial ?_
      · kernel_rfl
      refine AOps.nil ?_
      refine AWp.seq ?_
      refine AWp.cond rfl (fun hb => ?_) fun hb => ?_
      · replace h := of_true h hb
        refine AWp.keepTo [2, 5, 22, 23, 24] 0 ⟨[(2, .rp [.str v1.f0, fzL 3 c48 v1.f1]), (5, .tv (.int .i64 v5)), (22, .tv (fzL 3 c48 v2)), (23, .tv (.int .i64 (v2.length : Int))), (24, .tv (.int .i64 v6))], []⟩ ?_ (Nat.zero_le _) ?_
        · kernel_rfl
        refine AWp.skip ?_
        refine AWp.join (V := Int) (fun w => ⟨[(2, .rp [.str v1.f0, fzL 3 c48 v1.f1]), (5, .tv (.int .i64 w)), (22, .tv (fzL 3 c48 v2)), (23, .tv (.int .i64 (v2.length : Int))), (24, .tv (.int .i64 v6))], []⟩) (fun w => f33_j1 v6 w = some o) ?_ ?_
        · refine AWp.block ?_
          refine AWp.seq ?_
          obtain ⟨hg, h⟩ := of_guard h
          refine AWp.start [0, 1, 2, 3, 4, 5] [] [(0 : Int) ≤ v6, v6 < (v2.length : Int)] [2, 5, 6, 7, 22, 23, 24] 1 ⟨[(2, .rp [.str v1.f0, fzL 3 c48 v1.f1]), (5, .tv (.int .i64 v5)), (6, .tv (.int .i64 v6)), (7, .pc 0 0), (22, .tv (fzL 3 c48 v2)), (23, .tv (.int .i64 (v2.length : Int))), (24, .tv (.int .i64 v6))], [.cells 49 [.int .i64 ((v2.getD v6.toNat default).f0), .int .i64 ((v2.getD v6.toNat default).f1), .bool ((v2.getD v6.toNat default).f2)]]⟩ rfl ?_ (Nat.zero_le _) ⟨hg.1, hg.2⟩ ?_
          · kernel_rfl
          refine AOps.nil ?_
          refine AWp.seq ?_
          refine AWp.pin 0 rfl rfl ?_
          refine AWp.keepTo [2, 5, 6, 7, 22, 23, 24] 0 ⟨[(2, .rp [.str v1.f0, fzL 3 c48 v1.f1]), (5, .tv (.int .i64 v5)), (6, .tv (.int .i64 v6)), (7, .rp [.int .i64 ((v2.getD v6.toNat default).f0), .int .i64 ((v2.getD v6.toNat default).f1), .bool ((v2.getD v6.toNat default).f2)]), (22, .tv (fzL 3 c48 v2)), (23, .tv (.int .i64 (v2.length : Int))), (24, .tv (.int .i64 v6))], []⟩ ?_ (Nat.zero_le _) ?_
          · kernel_rfl
          obtain ⟨hg, h⟩ := of_guard h
          refine AWp.start [0, 1, 2, 3, 4, 5, 6] [] [(0 : Int) ≤ v6, v6 < (v1.f1.length : Int)] [2, 5, 7, 8, 22, 23, 24] 1 ⟨[(2, .rp [.str v1.f0, fzL 3 c48 v1.f1]), (5, .tv (.int .i64 v5)), (7, .rp [.int .i64 ((v2.getD v6.toNat default).f0), .int .i64 ((v2.getD v6.toNat default).f1), .bool ((v2.getD v6.toNat default).f2)]), (8, .pc 0 0), (22, .tv (fzL 3 c48 v2)), (23, .tv (.int .i64 (v2.length : Int))), (24, .tv (.int .i64 v6))], [.cells 49 [.int .i64 ((v1.f1.getD v6.toNat default).f0), .int .i64 ((v1.f1.getD v6.toNat default).f1), .bool ((v1.f1.getD v6.toNat default).f2)]]⟩ rfl ?_ (Nat.zero_le _) ⟨hg.1, hg.2⟩ ?_
          · kernel_rfl
          refine AOps.nil ?_
          refine AWp.seq ?_
          refine AWp.seq ?_
          refine AWp.pin 0 rfl rfl ?_
          refine AWp.keepTo [2, 5, 7, 8, 22, 23, 24] 0 ⟨[(2, .rp [.str v1.f0, fzL 3 c48 v1.f1]), (5, .tv (.int .i64 v5)), (7, .rp [.int .i64 ((v2.getD v6.toNat default).f0), .int .i64 ((v2.getD v6.toNat default).f1), .bool ((v2.getD v6.toNat default).f2)]), (8, .rp [.int .i64 ((v1.f1.getD v6.toNat default).f0), .int .i64 ((v1.f1.getD v6.toNat default).f1), .bool ((v1.f1.getD v6.toNat default).f2)]), (22, .tv (fzL 3 c48 v2)), (23, .tv (.int .i64 (v2.length : Int))), (24, .tv (.int .i64 v6))], []⟩ ?_ (Nat.zero_le _) ?_
          · kernel_rfl
          refine AWp.start [0, 1, 2, 3, 4, 5] [6, 7, 8, 9, 10, 11, 12, 13, 14, 15, 16] [] [2, 5, 7, 8, 22, 23, 24, 39] 0 ⟨[(2, .rp [.str v1.f0, fzL 3 c48 v1.f1]), (5, .tv (.int .i64 v5)), (7, .rp [.int .i64 ((v2.getD v6.toNat default).f0), .int .i64 ((v2.getD v6.toNat default).f1), .bool ((v2.getD v6.toNat default).f2)]), (8, .rp [.int .i64 ((v1.f1.getD v6.toNat default).f0), .int .i64 ((v1.f1.getD v6.toNat default).f1), .bool ((v1.f1.getD v6.toNat default).f2)]), (22, .tv (fzL 3 c48 v2)), (23, .tv (.int .i64 (v2.length : Int))), (24, .tv (.int .i64 v6)), (39, .tv (.bool ((v2.getD v6.toNat default).f0 != (v1.f1.getD v6.toNat default).f0)))], []⟩ rfl ?_ (Nat.zero_le _) trivial ?_
          · kernel_rfl
          obtain ⟨v9, hc6, h⟩ := of_bind h
          refine AOps.cut [6, 7, 8, 9, 10, 11, 12, 13, 14, 15, 16] [] (fun σ => σ = ⟨[(2, .rp [.str v1.f0, fzL 3 c48 v1.f1]), (5, .tv (.int .i64 v5)), (7, .rp [.int .i64 ((v2.getD v6.toNat default).f0), .int .i64 ((v2.getD v6.toNat default).f1), .bool ((v2.getD v6.toNat default).f2)]), (8, .rp [.int .i64 ((v1.f1.getD v6.toNat default).f0), .int .i64 ((v1.f1.getD v6.toNat default).f1), .bool ((v1.f1.getD v6.toNat default).f2)]), (22, .tv (fzL 3 c48 v2)), (23, .tv (.int .i64 (v2.length : Int))), (24, .tv (.int .i64 v6)), (50, .tv (.bool v9))], []⟩) ?_ fun σ' hJ => ?_
          · refine AOps.split (fun b => ⟨[(2, .rp [.str v1.f0, fzL 3 c48 v1.f1]), (5, .tv (.int .i64 v5)), (7, .rp [.int .i64 ((v2.getD v6.toNat default).f0), .int .i64 ((v2.getD v6.toNat default).f1), .bool ((v2.getD v6.toNat default).f2)]), (8, .rp [.int .i64 ((v1.f1.getD v6.toNat default).f0), .int .i64 ((v1.f1.getD v6.toNat default).f1), .bool ((v1.f1.getD v6.toNat default).f2)]), (22, .tv (fzL 3 c48 v2)), (23, .tv (.int .i64 (v2.length : Int))), (24, .tv (.int .i64 v6)), (39, .tv (.bool b))], []⟩) _ (fun hb => ?_) fun hb => ?_
            · replace hc6 := of_true hc6 hb
              refine AOps.go [6, 7, 8, 9, 10, 11, 12, 13, 14, 15, 16] [] [] [2, 5, 7, 8, 22, 23, 24, 50] 0 ⟨[(2, .rp [.str v1.f0, fzL 3 c48 v1.f1]), (5, .tv (.int .i64 v5)), (7, .rp [.int .i64 ((v2.getD v6.toNat default).f0), .int .i64 ((v2.getD v6.toNat default).f1), .bool ((v2.getD v6.toNat default).f2)]), (8, .rp [.int .i64 ((v1.f1.getD v6.toNat default).f0), .int .i64 ((v1.f1.getD v6.toNat default).f1), .bool ((v1.f1.getD v6.toNat default).f2)]), (22, .tv (fzL 3 c48 v2)), (23, .tv (.int .i64 (v2.length : Int))), (24, .tv (.int .i64 v6)), (50, .tv (.bool true))], []⟩ ?_ (Nat.zero_le _) trivial ?_
              · kernel_rfl
              cases hc6
              exact AOps.nil rfl
            · replace hc6 := of_false hc6 hb
              refine AOps.go [6, 7, 8, 9] [10, 11, 12, 13, 14, 15, 16] [] [2, 5, 7, 8, 22, 23, 24, 39, 43] 0 ⟨[(2, .rp [.str v1.f0, fzL 3 c48 v1.f1]), (5, .tv (.int .i64 v5)), (7, .rp [.int .i64 ((v2.getD v6.toNat default).f0), .int .i64 ((v2.getD v6.toNat default).f1), .bool ((v2.getD v6.toNat default).f2)]), (8, .rp [.int .i64 ((v1.f1.getD v6.toNat default).f0), .int .i64 ((v1.f1.getD v6.toNat default).f1), .bool ((v1.f1.getD v6.toNat default).f2)]), (22, .tv (fzL 3 c48 v2)), (23, .tv (.int .i64 (v2.length : Int))), (24, .tv (.int .i64 v6)), (39, .tv (.bool false)), (43, .tv (.bool ((v1.f1.getD v6.toNat default).f1 != (-1 : Int))))], []⟩ ?_ (Nat.zero_le _) trivial ?_
              · kernel_rfl
              obtain ⟨v8, hc10, hc6⟩ := of_bind hc6
              refine AOps.cut [10, 11, 12, 13, 14, 15] [16] (fun σ => σ = ⟨[(2, .rp [.str v1.f0, fzL 3 c48 v1.f1]), (5, .tv (.int .i64 v5)), (7, .rp [.int .i64 ((v2.getD v6.toNat default).f0), .int .i64 ((v2.getD v6.toNat default).f1), .bool ((v2.getD v6.toNat default).f2)]), (8, .rp [.int .i64 ((v1.f1.getD v6.toNat default).f0), .int .i64 ((v1.f1.getD v6.toNat default).f1), .bool ((v1.f1.getD v6.toNat default).f2)]), (22, .tv (fzL 3 c48 v2)), (23, .tv (.int .i64 (v2.length : Int))), (24, .tv (.int .i64 v6)), (39, .tv (.bool false)), (49, .tv (.bool v8))], []⟩) ?_ fun σ' hJ => ?_
              · refine AOps.split (fun b => ⟨[(2, .rp [.str v1.f0, fzL 3 c48 v1.f1]), (5, .tv (.int .i64 v5)), (7, .rp [.int .i64 ((v2.getD v6.toNat default).f0), .int .i64 ((v2.getD v6.toNat default).f1), .bool ((v2.getD v6.toNat default).f2)]), (8, .rp [.int .i64 ((v1.f1.getD v6.toNat default).f0), .int .i64 ((v1.f1.getD v6.toNat default).f1), .bool ((v1.f1.getD v6.toNat default).f2)]), (22, .tv (fzL 3 c48 v2)), (23, .tv (.int .i64 (v2.length : Int))), (24, .tv (.int .i64 v6)), (39, .tv (.bool false)), (43, .tv (.bool b))], []⟩) _ (fun hb => ?_) fun hb => ?_
                · replace hc10 := of_true hc10 hb
                  refine AOps.go [10, 11, 12, 13, 14, 15] [] [] [2, 5, 7, 8, 22, 23, 24, 39, 49] 0 ⟨[(2, .rp [.str v1.f0, fzL 3 c48 v1.f1]), (5, .tv (.int .i64 v5)), (7, .rp [.int .i64 ((v2.getD v6.toNat default).f0), .int .i64 ((v2.getD v6.toNat default).f1), .bool ((v2.getD v6.toNat default).f2)]), (8, .rp [.int .i64 ((v1.f1.getD v6.toNat default).f0), .int .i64 ((v1.f1.getD v6.toNat default).f1), .bool ((v1.f1.getD v6.toNat default).f2)]), (22, .tv (fzL 3 c48 v2)), (23, .tv (.int .i64 (v2.length : Int))), (24, .tv (.int .i64 v6)), (39, .tv (.bool false)), (49, .tv (.bool ((v2.getD v6.toNat default).f1 != (v1.f1.getD v6.toNat default).f1)))], []⟩ ?_ (Nat.zero_le _) trivial ?_
                  · kernel_rfl
                  cases hc10
                  exact AOps.nil rfl
                · replace hc10 := of_false hc10 hb
                  refine AOps.go [10, 11, 12, 13, 14, 15] [] [] [2, 5, 7, 8, 22, 23, 24, 39, 49] 0 ⟨[(2, .rp [.str v1.f0, fzL 3 c48 v1.f1]), (5, .tv (.int .i64 v5)), (7, .rp [.int .i64 ((v2.getD v6.toNat default).f0), .int .i64 ((v2.getD v6.toNat default).f1), .bool ((v2.getD v6.toNat default).f2)]), (8, .rp [.int .i64 ((v1.f1.getD v6.toNat default).f0), .int .i64 ((v1.f1.getD v6.toNat default).f1), .bool ((v1.f1.getD v6.toNat default).f2)]), (22, .tv (fzL 3 c48 v2)), (23, .tv (.int .i64 (v2.length : Int))), (24, .tv (.int .i64 v6)), (39, .tv (.bool false)), (49, .tv (.bool false))], []⟩ ?_ (Nat.zero_le _) trivial ?_
                  · kernel_rfl
                  cases hc10
                  exact AOps.nil rfl
              subst hJ
              refine AOps.go [16] [] [] [2, 5, 7, 8, 22, 23, 24, 50] 0 ⟨[(2, .rp [.str v1.f0, fzL 3 c48 v1.f1]), (5, .tv (.int .i64 v5)), (7, .rp [.int .i64 ((v2.getD v6.toNat default).f0), .int .i64 ((v2.getD v6.toNat default).f1), .bool ((v2.getD v6.toNat default).f2)]), (8, .rp [.int .i64 ((v1.f1.getD v6.toNat default).f0), .int .i64 ((v1.f1.getD v6.toNat default).f1), .bool ((v1.f1.getD v6.toNat default).f2)]), (22, .tv (fzL 3 c48 v2)), (23, .tv (.int .i64 (v2.length : Int))), (24, .tv (.int .i64 v6)), (50, .tv (.bool v8))], []⟩ ?_ (Nat.zero_le _) trivial ?_
              · kernel_rfl
              cases hc6
              exact AOps.nil rfl
          subst hJ
          refine AOps.nil ?_
          refine AWp.cond rfl (fun hb => ?_) fun hb => ?_
          · replace h := of_true h hb
            refine AWp.keepTo [] 0 ⟨[], []⟩ ?_ (Nat.zero_le _) ?_
            · kernel_rfl
            refine AWp.seq ?_
            refine AWp.start [0] [] [] [4] 0 ⟨[(4, .tv (.bool false))], []⟩ rfl ?_ (Nat.zero_le _) trivial ?_
            · kernel_rfl
            refine AOps.nil ?_
            refine AWp.ret ?_
            cases h
            exact Or.inr ⟨_, rfl, by simp, rfl, rfl⟩
          · replace h := of_false h hb
            refine AWp.keepTo [2, 5, 7, 8, 22, 23, 24] 0 ⟨[(2, .rp [.str v1.f0, fzL 3 c48 v1.f1]), (5, .tv (.int .i64 v5)), (7, .rp [.int .i64 ((v2.getD v6.toNat default).f0), .int .i64 ((v2.getD v6.toNat default).f1), .bool ((v2.getD v6.toNat default).f2)]), (8, .rp [.int .i64 ((v1.f1.getD v6.toNat default).f0), .int .i64 ((v1.f1.getD v6.toNat default).f1), .bool ((v1.f1.getD v6.toNat default).f2)]), (22, .tv (fzL 3 c48 v2)), (23, .tv (.int .i64 (v2.length : Int))), (24, .tv (.int .i64 v6))], []⟩ ?_ (Nat.zero_le _) ?_
            · kernel_rfl
            refine AWp.skip ?_
            refine AWp.seq ?_
            refine AWp.seq ?_
            refine AWp.start [0, 1, 2, 3] [4, 5, 6, 7] [] [2, 5, 7, 22, 23, 24, 54] 0 ⟨[(2, .rp [.str v1.f0, fzL 3 c48 v1.f1]), (5, .tv (.int .i64 v5)), (7, .rp [.int .i64 ((v2.getD v6.toNat default).f0), .int .i64 ((v2.getD v6.toNat default).f1), .bool ((v2.getD v6.toNat default).f2)]), (22, .tv (fzL 3 c48 v2)), (23, .tv (.int .i64 (v2.length : Int))), (24, .tv (.int .i64 v6)), (54, .tv (.bool ((v1.f1.getD v6.toNat default).f1 != (-1 : Int))))], []⟩ rfl ?_ (Nat.zero_le _) trivial ?_
            · kernel_rfl
            obtain ⟨v10, hc4, h⟩ := of_bind h
            refine AOps.cut [4, 5, 6, 7] [] (fun σ => σ = ⟨[(2, .rp [.str v1.f0, fzL 3 c48 v1.f1]), (5, .tv (.int .i64 v5)), (7, .rp [.int .i64 ((v2.getD v6.toNat default).f0), .int .i64 ((v2.getD v6.toNat default).f1), .bool ((v2.getD v6.toNat default).f2)]), (22, .tv (fzL 3 c48 v2)), (23, .tv (.int .i64 (v2.length : Int))), (24, .tv (.int .i64 v6)), (58, .tv (.bool v10))], []⟩) ?_ fun σ' hJ => ?_
            · refine AOps.split (fun b => ⟨[(2, .rp [.str v1.f0, fzL 3 c48 v1.f1]), (5, .tv (.int .i64 v5)), (7, .rp [.int .i64 ((v2.getD v6.toNat default).f0), .int .i64 ((v2.getD v6.toNat default).f1), .bool ((v2.getD v6.toNat default).f2)]), (22, .tv (fzL 3 c48 v2)), (23, .tv (.int .i64 (v2.length : Int))), (24, .tv (.int .i64 v6)), (54, .tv (.bool b))], []⟩) _ (fun hb => ?_) fun hb => ?_
              · replace hc4 := of_true hc4 hb
                refine AOps.go [4, 5, 6, 7] [] [] [2, 5, 7, 22, 23, 24, 58] 0 ⟨[(2, .rp [.str v1.f0, fzL 3 c48 v1.f1]), (5, .tv (.int .i64 v5)), (7, .rp [.int .i64 ((v2.getD v6.toNat default).f0), .int .i64 ((v2.getD v6.toNat default).f1), .bool ((v2.getD v6.toNat default).f2)]), (22, .tv (fzL 3 c48 v2)), (23, .tv (.int .i64 (v2.length : Int))), (24, .tv (.int .i64 v6)), (58, .tv (.bool true))], []⟩ ?_ (Nat.zero_le _) trivial ?_
                · kernel_rfl
                cases hc4
                exact AOps.nil rfl
              · replace hc4 := of_false hc4 hb
                refine AOps.go [4, 5, 6, 7] [] [] [2, 5, 7, 22, 23, 24, 58] 0 ⟨[(2, .rp [.str v1.f0, fzL 3 c48 v1.f1]), (5, .tv (.int .i64 v5)), (7, .rp [.int .i64 ((v2.getD v6.toNat default).f0), .int .i64 ((v2.getD v6.toNat default).f1), .bool ((v2.getD v6.toNat default).f2)]), (22, .tv (fzL 3 c48 v2)), (23, .tv (.int .i64 (v2.length : Int))), (24, .tv (.int .i64 v6)), (58, .tv (.bool ((v2.getD v6.toNat default).f1 == (0 : Int))))], []⟩ ?_ (Nat.zero_le _) trivial ?_
                · kernel_rfl
                cases hc4
                exact AOps.nil rfl
            subst hJ
            refine AOps.nil ?_
            refine AWp.cond rfl (fun hb => ?_) fun hb => ?_
            · replace h := of_true h hb
              refine AWp.keepTo [2, 5, 22, 23, 24] 0 ⟨[(2, .rp [.str v1.f0, fzL 3 c48 v1.f1]), (5, .tv (.int .i64 v5)), (22, .tv (fzL 3 c48 v2)), (23, .tv (.int .i64 (v2.length : Int))), (24, .tv (.int .i64 v6))], []⟩ ?_ (Nat.zero_le _) ?_
              · kernel_rfl
              refine AWp.exit ?_
              exact ⟨v5, h, rfl⟩
            · replace h := of_false h hb
              refine AWp.keepTo [2, 5, 7, 22, 23, 24] 0 ⟨[(2, .rp [.str v1.f0, fzL 3 c48 v1.f1]), (5, .tv (.int .i64 v5)), (7, .rp [.int .i64 ((v2.getD v6.toNat default).f0), .int .i64 ((v2.getD v6.toNat default).f1), .bool ((v2.getD v6.toNat default).f2)]), (22, .tv (fzL 3 c48 v2)), (23, .tv (.int .i64 (v2.length : Int))), (24, .tv (.int .i64 v6))], []⟩ ?_ (Nat.zero_le _) ?_
              · kernel_rfl
              refine AWp.skip ?_
              refine AWp.seq ?_
              refine AWp.seq ?_
              refine AWp.start [0, 1, 2] [3, 4, 5, 6, 7] [] [2, 5, 7, 22, 23, 24, 61] 0 ⟨[(2, .rp [.str v1.f0, fzL 3 c48 v1.f1]), (5, .tv (.int .i64 v5)), (7, .rp [.int .i64 ((v2.getD v6.toNat default).f0), .int .i64 ((v2.getD v6.toNat default).f1), .bool ((v2.getD v6.toNat default).f2)]), (22, .tv (fzL 3 c48 v2)), (23, .tv (.int .i64 (v2.length : Int))), (24, .tv (.int .i64 v6)), (61, .tv (.bool (decide (v5 > (0 : Int)))))], []⟩ rfl ?_ (Nat.zero_le _) trivial ?_
              · kernel_rfl
              obtain ⟨v11, hc3, h⟩ := of_bind h
              refine AOps.cut [3, 4, 5, 6, 7] [] (fun σ => σ = ⟨[(2, .rp [.str v1.f0, fzL 3 c48 v1.f1]), (7, .rp [.int .i64 ((v2.getD v6.toNat default).f0), .int .i64 ((v2.getD v6.toNat default).f1), .bool ((v2.getD v6.toNat default).f2)]), (22, .tv (fzL 3 c48 v2)), (23, .tv (.int .i64 (v2.length : Int))), (24, .tv (.int .i64 v6)), (66, .tv (.bool v11))], []⟩) ?_ fun σ' hJ => ?_
              · refine AOps.split (fun b => ⟨[(2, .rp [.str v1.f0, fzL 3 c48 v1.f1]), (5, .tv (.int .i64 v5)), (7, .rp [.int .i64 ((v2.getD v6.toNat default).f0), .int .i64 ((v2.getD v6.toNat default).f1), .bool ((v2.getD v6.toNat default).f2)]), (22, .tv (fzL 3 c48 v2)), (23, .tv (.int .i64 (v2.length : Int))), (24, .tv (.int .i64 v6)), (61, .tv (.bool b))], []⟩) _ (fun hb => ?_) fun hb => ?_
                · replace hc3 := of_true hc3 hb
                  refine AOps.go [3, 4, 5, 6, 7] [] [] [2, 7, 22, 23, 24, 66] 0 ⟨[(2, .rp [.str v1.f0, fzL 3 c48 v1.f1]), (7, .rp [.int .i64 ((v2.getD v6.toNat default).f0), .int .i64 ((v2.getD v6.toNat default).f1), .bool ((v2.getD v6.toNat default).f2)]), (22, .tv (fzL 3 c48 v2)), (23, .tv (.int .i64 (v2.length : Int))), (24, .tv (.int .i64 v6)), (66, .tv (.bool (v5 != (v2.getD v6.toNat default).f1)))], []⟩ ?_ (Nat.zero_le _) trivial ?_
                  · kernel_rfl
                  cases hc3
                  exact AOps.nil rfl
                · replace hc3 := of_false hc3 hb
                  refine AOps.go [3, 4, 5, 6, 7] [] [] [2, 7, 22, 23, 24, 66] 0 ⟨[(2, .rp [.str v1.f0, fzL 3 c48 v1.f1]), (7, .rp [.int .i64 ((v2.getD v6.toNat default).f0), .int .i64 ((v2.getD v6.toNat default).f1), .bool ((v2.getD v6.toNat default).f2)]), (22, .tv (fzL 3 c48 v2)), (23, .tv (.int .i64 (v2.length : Int))), (24, .tv (.int .i64 v6)), (66, .tv (.bool false))], []⟩ ?_ (Nat.zero_le _) trivial ?_
                  · kernel_rfl
                  cases hc3
                  exact AOps.nil rfl
              subst hJ
              refine AOps.nil ?_
              refine AWp.cond rfl (fun hb => ?_) fun hb => ?_
              · replace h := of_true h hb
                refine AWp.keepTo [] 0 ⟨[], []⟩ ?_ (Nat.zero_le _) ?_
                · kernel_rfl
                refine AWp.seq ?_
                refine AWp.start [0] [] [] [4] 0 ⟨[(4, .tv (.bool false))], []⟩ rfl ?_ (Nat.zero_le _) trivial ?_
                · kernel_rfl
                refine AOps.nil ?_
                refine AWp.ret ?_
                cases h
                exact Or.inr ⟨_, rfl, by simp, rfl, rfl⟩
              · replace h := of_false h hb
                refine AWp.keepTo [2, 7, 22, 23, 24] 0 ⟨[(2, .rp [.str v1.f0, fzL 3 c48 v1.f1]), (7, .rp [.int .i64 ((v2.getD v6.toNat default).f0), .int .i64 ((v2.getD v6.toNat default).f1), .bool ((v2.getD v6.toNat default).f2)]), (22, .tv (fzL 3 c48 v2)), (23, .tv (.int .i64 (v2.length : Int))), (24, .tv (.int .i64 v6))], []⟩ ?_ (Nat.zero_le _) ?_
                · kernel_rfl
                refine AWp.skip ?_
                refine AWp.start [0, 1, 2] [] [] [2, 5, 22, 23, 24] 0 ⟨[(2, .rp [.str v1.f0, fzL 3 c48 v1.f1]), (5, .tv (.int .i64 ((v2.getD v6.toNat default).f1))), (22, .tv (fzL 3 c48 v2)), (23, .tv (.int .i64 (v2.length : Int))), (24, .tv (.int .i64 v6))], []⟩ rfl ?_ (Nat.zero_le _) trivial ?_
                · kernel_rfl
                refine AOps.nil ?_
                exact ⟨(v2.getD v6.toNat default).f1, h, rfl⟩
        · rintro v7 h
          refine AWp.start [0, 1] [] [] [2, 5, 22, 23, 24] 0 ⟨[(2, .rp [.str v1.f0, fzL 3 c48 v1.f1]), (5, .tv (.int .i64 v7)), (22, .tv (fzL 3 c48 v2)), (23, .tv (.int .i64 (v2.length : Int))), (24, .tv (.int .i64 (w64 (v6 + (1 : Int)))))], []⟩ rfl ?_ (Nat.zero_le _) trivial ?_
          · kernel_rfl
          refine AOps.nil ?_
          cases h
          exact Or.inl ⟨_, rfl, rfl, rfl⟩
      · replace h := of_false h hb
        refine AWp.keepTo [] 0 ⟨[], []⟩ ?_ (Nat.zero_le _) ?_
        · kernel_rfl
        refine AWp.exit ?_
        cases h
        exact Or.inr ⟨_, rfl, by simp, rfl, rfl⟩
    · intro e σ hp
      rcases y with v12 | _
      · obtain ⟨rfl, rfl⟩ := hp
        cases h
        exact ⟨.inr rfl, rfl⟩
      · obtain ⟨rfl, rfl⟩ := hp
        refine AWp.seq ?_
        refine AWp.start [0] [] [] [4] 0 ⟨[(4, .tv (.bool true))], []⟩ rfl ?_ (Nat.zero_le _) trivial ?_
        · kernel_rfl
        refine AOps.nil ?_
        refine AWp.ret ?_
        cases h
        exact ⟨.inr rfl, rfl⟩

noncomputable def f43_b1 (v1 : T31) (v2 : T31) (v3 : Int) (v4 : Int) (v5 : List T48) (v6 : Int) : Option (((List T48) × Int) ⊕ Out ((List T48) × Bool) (List T48)) :=
  cond (decide (v6 < (if v4 > v3 then v4 else v3))) (if (0 : Int) ≤ v6 ∧ v6 < (v1.f1.length : Int) ∧ (0 : Int) ≤ v6 ∧ v6 < (v1.f1.length : Int) ∧ (0 : Int) ≤ v6 ∧ v6 < (v2.f1.length : Int) then if (v5.length + [T48.mk ((v1.f1.getD v6.toNat default).f0) (if (0 : Int) > (if (v2.f1.getD v6.toNat default).f1 > (v1.f1.getD v6.toNat default).f1 then (v2.f1.getD v6.toNat default).f1 else (v1.f1.getD v6.toNat default).f1) then (0 : Int) else (if (v2.f1.getD v6.toNat default).f1 > (v1.f1.getD v6.toNat default).f1 then (v2.f1.getD v6.toNat default).f1 else (v1.f1.getD v6.toNat default).f1)) false].length) * 24 ≤ 140737488355328 then some (.inl (v5 ++ [T48.mk ((v1.f1.getD v6.toNat default).f0) (if (0 : Int) > (if (v2.f1.getD v6.toNat default).f1 > (v1.f1.getD v6.toNat default).f1 then (v2.f1.getD v6.toNat default).f1 else (v1.f1.getD v6.toNat default).f1) then (0 : Int) else (if (v2.f1.getD v6.toNat default).f1 > (v1.f1.getD v6.toNat default).f1 then (v2.f1.getD v6.toNat default).f1 else (v1.f1.getD v6.toNat default).f1)) false], w64 (v6 + (1 : Int)))) else none else none) (some (.inr (.go v5)))

noncomputable def f43 (v1 : T31) (v2 : T31) : Option ((List T48) × Bool) :=
  (f55 v1).bind fun v3 => (f55 v2).bind fun v4 => cond (decide ((if v4 > v3 then v4 else v3) > (if (v2.f1.length : Int) < (v1.f1.length : Int) then (v2.f1.length : Int) else (v1.f1.length : Int)))) (some (([] : List T48), false)) ((iter (fun s => f43_b1 v1 v2 v3 v4 s.1 s.2) ([], (0 : Int))).bind fun y => match y with | .ret v8 => some (v8.1, v8.2) | .go v7 => (f33 v1 v7).bind fun v9 => (cond v9 ((f33 v2 v7).bind fun v10 => some v10) (some false)).bind fun v11 => some (v7, v11))

theorem f43_ok (v1 : T31) (v2 : T31) {r : (List T48) × Bool} (h : f43 v1 v2 = some r) : ACall Try.prog 43 [.agg [.str v1.f0, fzL 3 c48 v1.f1], .agg [.str v2.f0, fzL 3 c48 v2.f1]] [] (.tup [.tv (fzL 3 c48 r.1), .tv (.bool r.2)]) [] := by
  refine ACall.ofN (FF 60 0) (rs := [4, 5]) (env := [(4, .tv (fzL 3 c48 r.1)), (5, .tv (.bool r.2))]) Try.func43 rfl Try.ntmps43 Try.results43 (by decide) (by decide) rfl (Nat.le_of_ble_eq_true rfl) rfl (get_ofN _ _ _ rfl) (ok_ofN _ rfl) ?_
  refine AWp.seq ?_
  refine AWp.start [0, 1, 2, 3] [] [] [2, 3] 2 ⟨[(2, .pc 0 0), (3, .pc 1 0)], [.cells 32 [.str v1.f0, fzL 3 c48 v1.f1], .cells 32 [.str v2.f0, fzL 3 c48 v2.f1]]⟩ rfl ?_ (Nat.zero_le _) trivial ?_
  · kernel_rfl
  refine AOps.nil ?_
  refine AWp.seq ?_
  refine AWp.pin 0 rfl rfl ?_
  refine AWp.pin 1 rfl rfl ?_
  refine AWp.keepTo [2, 3] 0 ⟨[(2, .rp [.str v1.f0, fzL 3 c48 v1.f1]), (3, .rp [.str v2.f0, fzL 3 c48 v2.f1])], []⟩ ?_ (Nat.zero_le _) ?_
  · kernel_rfl
  refine AWp.draw FFm _ (n := 6) rfl (ls := #[false, false, false, false, false, false]) rfl ?_ (fun _ h => h)
  refine AAny.go (by kernel_rfl) [0, 2] (fuel' := 4) rfl [] #[true, false, true, false, false, false] [2, 3, 9, 11] 0 ⟨[(2, .rp [.str v1.f0, fzL 3 c48 v1.f1]), (3, .rp [.str v2.f0, fzL 3 c48 v2.f1]), (9, .agg [.str v1.f0, fzL 3 c48 v1.f1]), (11, .agg [.str v2.f0, fzL 3 c48 v2.f1])], []⟩ ?_ (Nat.zero_le _) trivial ?_
  · kernel_rfl
  obtain ⟨v3, hv3, h⟩ := of_bind h
  refine AAny.serial (i := 1) (fuel := 3) (by kernel_rfl) (AOne.callP (F := (FF 60 0)) _ rfl rfl rfl _ rfl rfl _ _ rfl Try.call55 [.agg [.str v1.f0, fzL 3 c48 v1.f1]] rfl rfl (f55_ok v1 hv3) rfl) ?_
  refine AAny.keepTo [2, 3, 10, 11] 0 ⟨[(2, .rp [.str v1.f0, fzL 3 c48 v1.f1]), (3, .rp [.str v2.f0, fzL 3 c48 v2.f1]), (10, .tv (.int .i64 v3)), (11, .agg [.str v2.f0, fzL 3 c48 v2.f1])], []⟩ #[true, true, true, false, false, false] ?_ rfl (Nat.zero_le _) ?_
  · kernel_rfl
  obtain ⟨v4, hv4, h⟩ := of_bind h
  refine AAny.serial (i := 3) (fuel := 2) (by kernel_rfl) (AOne.callP (F := (FF 60 0)) _ rfl rfl rfl _ rfl rfl _ _ rfl Try.call55 [.agg [.str v2.f0, fzL 3 c48 v2.f1]] rfl rfl (f55_ok v2 hv4) rfl) ?_
  refine AAny.keepTo [2, 3, 10, 12] 0 ⟨[(2, .rp [.str v1.f0, fzL 3 c48 v1.f1]), (3, .rp [.str v2.f0, fzL 3 c48 v2.f1]), (10, .tv (.int .i64 v3)), (12, .tv (.int .i64 v4))], []⟩ #[true, true, true, true, false, false] ?_ rfl (Nat.zero_le _) ?_
  · kernel_rfl
  refine AAny.go (by kernel_rfl) [4, 5] (fuel' := 0) rfl [] #[true, true, true, true, true, true] [2, 3, 6] 0 ⟨[(2, .rp [.str v1.f0, fzL 3 c48 v1.f1]), (3, .rp [.str v2.f0, fzL 3 c48 v2.f1]), (6, .tv (.int .i64 (if v4 > v3 then v4 else v3)))], []⟩ ?_ (Nat.zero_le _) trivial ?_
  · kernel_rfl
  refine AAny.keepTo [2, 3, 6] 0 ⟨[(2, .rp [.str v1.f0, fzL 3 c48 v1.f1]), (3, .rp [.str v2.f0, fzL 3 c48 v2.f1]), (6, .tv (.int .i64 (if v4 > v3 then v4 else v3)))], []⟩ _ ?_ rfl (Nat.zero_le _) (AAny.done (by kernel_rfl) ?_)
  · kernel_rfl
  refine AWp.seq ?_
  refine AWp.seq ?_
  refine AWp.start [0, 1, 2, 3, 4, 5, 6, 7, 8] [] [] [2, 3, 6, 22] 0 ⟨[(2, .rp [.str v1.f0, fzL 3 c48 v1.f1]), (3, .rp [.str v2.f0, fzL 3 c48 v2.f1]), (6, .tv (.int .i64 (if v4 > v3 then v4 else v3))), (22, .tv (.bool (decide ((if v4 > v3 then v4 else v3) > (if (v2.f1.length : Int) < (v1.f1.length : Int) then (v2.f1.length : Int) else (v1.f1.length : Int))))))], []⟩ rfl ?_ (Nat.zero_le _) trivial ?_
  · kernel_rfl
  refine AOps.nil ?_
  refine AWp.cond rfl (fun hb => ?_) fun hb => ?_
  · replace h := of_true h hb
    refine AWp.keepTo [] 0 ⟨[], []⟩ ?_ (Nat.zero_le _) ?_
    · kernel_rfl
    refine AWp.seq ?_
    refine AWp.start [0, 1] [] [] [4, 5] 0 ⟨[(4, .tv (.sc (.slice none 0 0))), (5, .tv (.bool false))], []⟩ rfl ?_ (Nat.zero_le _) trivial ?_
    · kernel_rfl
    refine AOps.nil ?_
    refine AWp.nilFz 4 3 (fun i => c48 (([] : List T48).getD i default)) rfl ?_
    refine AWp.keepTo [4, 5] 0 ⟨[(4, .tv (fzL 3 c48 ([] : List T48))), (5, .tv (.bool false))], []⟩ ?_ (Nat.zero_le _) ?_
    · kernel_rfl
    refine AWp.ret ?_
    cases h
    exact ⟨.inr rfl, rfl⟩
  · replace h := of_false h hb
    refine AWp.keepTo [2, 3, 6] 0 ⟨[(2, .rp [.str v1.f0, fzL 3 c48 v1.f1]), (3, .rp [.str v2.f0, fzL 3 c48 v2.f1]), (6, .tv (.int .i64 (if v4 > v3 then v4 else v3)))], []⟩ ?_ (Nat.zero_le _) ?_
    · kernel_rfl
    refine AWp.skip ?_
    refine AWp.seq ?_
    refine AWp.start [0] [] [] [2, 3, 6, 7] 0 ⟨[(2, .rp [.str v1.f0, fzL 3 c48 v1.f1]), (3, .rp [.str v2.f0, fzL 3 c48 v2.f1]), (6, .tv (.int .i64 (if v4 > v3 then v4 else v3))), (7, .tv (.sc (.slice none 0 0)))], []⟩ rfl ?_ (Nat.zero_le _) trivial ?_
    · kernel_rfl
    refine AOps.nil ?_
    refine AWp.seq ?_
    refine AWp.seq ?_
    refine AWp.start [0, 1] [] [] [2, 3, 7, 23, 24] 0 ⟨[(2, .rp [.str v1.f0, fzL 3 c48 v1.f1]), (3, .rp [.str v2.f0, fzL 3 c48 v2.f1]), (7, .tv (.sc (.slice none 0 0))), (23, .tv (.int .i64 (if v4 > v3 then v4 else v3))), (24, .tv (.int .i64 (0 : Int)))], []⟩ rfl ?_ (Nat.zero_le _) trivial ?_
    · kernel_rfl
    refine AOps.nil ?_
    refine AWp.block ?_
    refine AWp.nilOwn 7 3 49 (fun i => c48 (([] : List T48).getD i default)) rfl ?_
    refine AWp.keepTo [2, 3, 7, 23, 24] 0 ⟨[(2, .rp [.str v1.f0, fzL 3 c48 v1.f1]), (3, .rp [.str v2.f0, fzL 3 c48 v2.f1]), (7, .tv (ownL 3 49 c48 ([] : List T48))), (23, .tv (.int .i64 (if v4 > v3 then v4 else v3))), (24, .tv (.int .i64 (0 : Int)))], []⟩ ?_ (Nat.zero_le _) ?_
    · kernel_rfl
    obtain ⟨y, hy, h⟩ := of_bind h
    refine AWp.mono (AWp.loop (S := (List T48) × Int) (Y := Out ((List T48) × Bool) (List T48)) (fun s => ⟨[(2, .rp [.str v1.f0, fzL 3 c48 v1.f1]), (3, .rp [.str v2.f0, fzL 3 c48 v2.f1]), (7, .tv (ownL 3 49 c48 s.1)), (23, .tv (.int .i64 (if v4 > v3 then v4 else v3))), (24, .tv (.int .i64 s.2))], []⟩) (fun s => f43_b1 v1 v2 v3 v4 s.1 s.2) (fun y e σ => match y with | .ret r => e = .ret ∧ σ = ⟨[(4, .tv (fzL 3 c48 r.1)), (5, .tv (.bool r.2))], []⟩ | .go v => e = .exit 0 ∧ σ = ⟨[(2, .rp [.str v1.f0, fzL 3 c48 v1.f1]), (3, .rp [.str v2.f0, fzL 3 c48 v2.f1]), (7, .tv (ownL 3 49 c48 v))], []⟩) ?_ hy) ?_
    · rintro ⟨v5, v6⟩ o h
      refine AWp.seq ?_
      refine AWp.start [0] [] [] [2, 3, 7, 23, 24, 25] 0 ⟨[(2, .rp [.str v1.f0, fzL 3 c48 v1.f1]), (3, .rp [.str v2.f0, fzL 3 c48 v2.f1]), (7, .tv (ownL 3 49 c48 v5)), (23, .tv (.int .i64 (if v4 > v3 then v4 else v3))), (24, .tv (.int .i64 v6)), (25, .tv (.bool (decide (v6 < (if v4 > v3 then v4 else v3)))))], []⟩ rfl ?_ (Nat.zero_le _) trivial ?_
      · kernel_rfl
      refine AOps.nil ?_
      refine AWp.seq ?_
      refine AWp.cond rfl (fun hb => ?_) fun hb => ?_
      · replace h := of_true h hb
        refine AWp.keepTo [2, 3, 7, 23, 24] 0 ⟨[(2, .rp [.str v1.f0, fzL 3 c48 v1.f1]), (3, .rp [.str v2.f0, fzL 3 c48 v2.f1]), (7, .tv (ownL 3 49 c48 v5)), (23, .tv (.int .i64 (if v4 > v3 then v4 else v3))), (24, .tv (.int .i64 v6))], []⟩ ?_ (Nat.zero_le _) ?_
        · kernel_rfl
        refine AWp.skip ?_
        refine AWp.seq ?_
        refine AWp.block ?_
        refine AWp.seq ?_
        refine AWp.start [0, 1] [] [] [2, 3, 7, 8, 23, 24] 0 ⟨[(2, .rp [.str v1.f0, fzL 3 c48 v1.f1]), (3, .rp [.str v2.f0, fzL 3 c48 v2.f1]), (7, .tv (ownL 3 49 c48 v5)), (8, .tv (.int .i64 v6)), (23, .tv (.int .i64 (if v4 > v3 then v4 else v3))), (24, .tv (.int .i64 v6))], []⟩ rfl ?_ (Nat.zero_le _) trivial ?_
        · kernel_rfl
        refine AOps.nil ?_
        refine AWp.draw FFm _ (n := 24) rfl (ls := #[false, false, false, false, false, false, false, false, false, false, false, false, false, false, false, false, false, false, false, false, false, false, false, false]) rfl ?_ (fun _ h => h)
        obtain ⟨hg, h⟩ := of_guard h
        refine AAny.go (by kernel_rfl) [0, 1, 2, 3, 4, 5, 6, 7, 8, 9, 10, 11, 12, 13, 14, 15, 16, 17, 18, 19, 20] (fuel' := 3) rfl [(0 : Int) ≤ v6, v6 < (v1.f1.length : Int), (0 : Int) ≤ v6, v6 < (v1.f1.length : Int), (0 : Int) ≤ v6, v6 < (v2.f1.length : Int)] #[true, true, true, true, true, true, true, true, true, true, true, true, true, true, true, true, true, true, true, true, true, false, false, false] [2, 3, 7, 23, 24, 27, 47] 0 ⟨[(2, .rp [.str v1.f0, fzL 3 c48 v1.f1]), (3, .rp [.str v2.f0, fzL 3 c48 v2.f1]), (7, .tv (ownL 3 49 c48 v5)), (23, .tv (.int .i64 (if v4 > v3 then v4 else v3))), (24, .tv (.int .i64 v6)), (27, .al (.slot 7 0, [])), (47, .agg [.int .i64 ((v1.f1.getD v6.toNat default).f0), .int .i64 (if (0 : Int) > (if (v2.f1.getD v6.toNat default).f1 > (v1.f1.getD v6.toNat default).f1 then (v2.f1.getD v6.toNat default).f1 else (v1.f1.getD v6.toNat default).f1) then (0 : Int) else (if (v2.f1.getD v6.toNat default).f1 > (v1.f1.getD v6.toNat default).f1 then (v2.f1.getD v6.toNat default).f1 else (v1.f1.getD v6.toNat default).f1)), .bool false])], []⟩ ?_ (Nat.zero_le _) ⟨hg.1, hg.2.1, hg.2.2.1, hg.2.2.2.1, hg.2.2.2.2.1, hg.2.2.2.2.2⟩ ?_
        · kernel_rfl
        refine AAny.step (i := 21) (fuel' := 2) rfl (by kernel_rfl) [] #[true, true, true, true, true, true, true, true, true, true, true, true, true, true, true, true, true, true, true, true, true, true, false, false] rfl [2, 3, 7, 23, 24, 27, 48] 0 ⟨[(2, .rp [.str v1.f0, fzL 3 c48 v1.f1]), (3, .rp [.str v2.f0, fzL 3 c48 v2.f1]), (7, .tv (ownL 3 49 c48 v5)), (23, .tv (.int .i64 (if v4 > v3 then v4 else v3))), (24, .tv (.int .i64 v6)), (27, .al (.slot 7 0, [])), (48, .tv (.own 3 49 1 (newRowF [.int .i64 ((v1.f1.getD v6.toNat default).f0), .int .i64 (if (0 : Int) > (if (v2.f1.getD v6.toNat default).f1 > (v1.f1.getD v6.toNat default).f1 then (v2.f1.getD v6.toNat default).f1 else (v1.f1.getD v6.toNat default).f1) then (0 : Int) else (if (v2.f1.getD v6.toNat default).f1 > (v1.f1.getD v6.toNat default).f1 then (v2.f1.getD v6.toNat default).f1 else (v1.f1.getD v6.toNat default).f1)), .bool false] 3)))], []⟩ ?_ (Nat.zero_le _) trivial ?_
        · kernel_rfl
        refine AAny.extL 48 c48 [T48.mk ((v1.f1.getD v6.toNat default).f0) (if (0 : Int) > (if (v2.f1.getD v6.toNat default).f1 > (v1.f1.getD v6.toNat default).f1 then (v2.f1.getD v6.toNat default).f1 else (v1.f1.getD v6.toNat default).f1) then (0 : Int) else (if (v2.f1.getD v6.toNat default).f1 > (v1.f1.getD v6.toNat default).f1 then (v2.f1.getD v6.toNat default).f1 else (v1.f1.getD v6.toNat default).f1)) false] rfl rfl (row_at c48 3 (fun _ => rfl) [T48.mk ((v1.f1.getD v6.toNat default).f0) (if (0 : Int) > (if (v2.f1.getD v6.toNat default).f1 > (v1.f1.getD v6.toNat default).f1 then (v2.f1.getD v6.toNat default).f1 else (v1.f1.getD v6.toNat default).f1) then (0 : Int) else (if (v2.f1.getD v6.toNat default).f1 > (v1.f1.getD v6.toNat default).f1 then (v2.f1.getD v6.toNat default).f1 else (v1.f1.getD v6.toNat default).f1)) false] _ rfl) ?_
        obtain ⟨hg, h⟩ := of_guard h
        refine AAny.step (i := 22) (fuel' := 1) rfl (by kernel_rfl) [(v5.length + [T48.mk ((v1.f1.getD v6.toNat default).f0) (if (0 : Int) > (if (v2.f1.getD v6.toNat default).f1 > (v1.f1.getD v6.toNat default).f1 then (v2.f1.getD v6.toNat default).f1 else (v1.f1.getD v6.toNat default).f1) then (0 : Int) else (if (v2.f1.getD v6.toNat default).f1 > (v1.f1.getD v6.toNat default).f1 then (v2.f1.getD v6.toNat default).f1 else (v1.f1.getD v6.toNat default).f1)) false].length) * 24 ≤ 140737488355328, PlainTo v5.length (fun i => c48 (v5.getD i default)), PlainTo ([T48.mk ((v1.f1.getD v6.toNat default).f0) (if (0 : Int) > (if (v2.f1.getD v6.toNat default).f1 > (v1.f1.getD v6.toNat default).f1 then (v2.f1.getD v6.toNat default).f1 else (v1.f1.getD v6.toNat default).f1) then (0 : Int) else (if (v2.f1.getD v6.toNat default).f1 > (v1.f1.getD v6.toNat default).f1 then (v2.f1.getD v6.toNat default).f1 else (v1.f1.getD v6.toNat default).f1)) false].length) (fun i => c48 ([T48.mk ((v1.f1.getD v6.toNat default).f0) (if (0 : Int) > (if (v2.f1.getD v6.toNat default).f1 > (v1.f1.getD v6.toNat default).f1 then (v2.f1.getD v6.toNat default).f1 else (v1.f1.getD v6.toNat default).f1) then (0 : Int) else (if (v2.f1.getD v6.toNat default).f1 > (v1.f1.getD v6.toNat default).f1 then (v2.f1.getD v6.toNat default).f1 else (v1.f1.getD v6.toNat default).f1)) false].getD i default))] #[true, true, true, true, true, true, true, true, true, true, true, true, true, true, true, true, true, true, true, true, true, true, true, false] rfl [2, 3, 23, 24, 49] 0 ⟨[(2, .rp [.str v1.f0, fzL 3 c48 v1.f1]), (3, .rp [.str v2.f0, fzL 3 c48 v2.f1]), (23, .tv (.int .i64 (if v4 > v3 then v4 else v3))), (24, .tv (.int .i64 v6)), (49, .tv (.own 3 49 (v5.length + [T48.mk ((v1.f1.getD v6.toNat default).f0) (if (0 : Int) > (if (v2.f1.getD v6.toNat default).f1 > (v1.f1.getD v6.toNat default).f1 then (v2.f1.getD v6.toNat default).f1 else (v1.f1.getD v6.toNat default).f1) then (0 : Int) else (if (v2.f1.getD v6.toNat default).f1 > (v1.f1.getD v6.toNat default).f1 then (v2.f1.getD v6.toNat default).f1 else (v1.f1.getD v6.toNat default).f1)) false].length) (appF v5.length (fun i => c48 (v5.getD i default)) (fun i => c48 ([T48.mk ((v1.f1.getD v6.toNat default).f0) (if (0 : Int) > (if (v2.f1.getD v6.toNat default).f1 > (v1.f1.getD v6.toNat default).f1 then (v2.f1.getD v6.toNat default).f1 else (v1.f1.getD v6.toNat default).f1) then (0 : Int) else (if (v2.f1.getD v6.toNat default).f1 > (v1.f1.getD v6.toNat default).f1 then (v2.f1.getD v6.toNat default).f1 else (v1.f1.getD v6.toNat default).f1)) false].getD i default)))))], []⟩ ?_ (Nat.zero_le _) ⟨hg, (fun _ _ => rfl), (fun _ _ => rfl)⟩ ?_
        · kernel_rfl
        refine AAny.extL 49 c48 (v5 ++ [T48.mk ((v1.f1.getD v6.toNat default).f0) (if (0 : Int) > (if (v2.f1.getD v6.toNat default).f1 > (v1.f1.getD v6.toNat default).f1 then (v2.f1.getD v6.toNat default).f1 else (v1.f1.getD v6.toNat default).f1) then (0 : Int) else (if (v2.f1.getD v6.toNat default).f1 > (v1.f1.getD v6.toNat default).f1 then (v2.f1.getD v6.toNat default).f1 else (v1.f1.getD v6.toNat default).f1)) false]) rfl (by simp) (app_at c48 v5 [T48.mk ((v1.f1.getD v6.toNat default).f0) (if (0 : Int) > (if (v2.f1.getD v6.toNat default).f1 > (v1.f1.getD v6.toNat default).f1 then (v2.f1.getD v6.toNat default).f1 else (v1.f1.getD v6.toNat default).f1) then (0 : Int) else (if (v2.f1.getD v6.toNat default).f1 > (v1.f1.getD v6.toNat default).f1 then (v2.f1.getD v6.toNat default).f1 else (v1.f1.getD v6.toNat default).f1)) false]) ?_
        refine AAny.step (i := 23) (fuel' := 0) rfl (by kernel_rfl) [] #[true, true, true, true, true, true, true, true, true, true, true, true, true, true, true, true, true, true, true, true, true, true, true, true] rfl [2, 3, 7, 23, 24] 0 ⟨[(2, .rp [.str v1.f0, fzL 3 c48 v1.f1]), (3, .rp [.str v2.f0, fzL 3 c48 v2.f1]), (7, .tv (ownL 3 49 c48 (v5 ++ [T48.mk ((v1.f1.getD v6.toNat default).f0) (if (0 : Int) > (if (v2.f1.getD v6.toNat default).f1 > (v1.f1.getD v6.toNat default).f1 then (v2.f1.getD v6.toNat default).f1 else (v1.f1.getD v6.toNat default).f1) then (0 : Int) else (if (v2.f1.getD v6.toNat default).f1 > (v1.f1.getD v6.toNat default).f1 then (v2.f1.getD v6.toNat default).f1 else (v1.f1.getD v6.toNat default).f1)) false]))), (23, .tv (.int .i64 (if v4 > v3 then v4 else v3))), (24, .tv (.int .i64 v6))], []⟩ ?_ (Nat.zero_le _) trivial ?_
        · kernel_rfl
        refine AAny.keepTo [2, 3, 7, 23, 24] 0 ⟨[(2, .rp [.str v1.f0, fzL 3 c48 v1.f1]), (3, .rp [.str v2.f0, fzL 3 c48 v2.f1]), (7, .tv (ownL 3 49 c48 (v5 ++ [T48.mk ((v1.f1.getD v6.toNat default).f0) (if (0 : Int) > (if (v2.f1.getD v6.toNat default).f1 > (v1.f1.getD v6.toNat default).f1 then (v2.f1.getD v6.toNat default).f1 else (v1.f1.getD v6.toNat default).f1) then (0 : Int) else (if (v2.f1.getD v6.toNat default).f1 > (v1.f1.getD v6.toNat default).f1 then (v2.f1.getD v6.toNat default).f1 else (v1.f1.getD v6.toNat default).f1)) false]))), (23, .tv (.int .i64 (if v4 > v3 then v4 else v3))), (24, .tv (.int .i64 v6))], []⟩ _ ?_ rfl (Nat.zero_le _) (AAny.done (by kernel_rfl) ?_)
        · kernel_rfl
        refine AWp.start [0, 1] [] [] [2, 3, 7, 23, 24] 0 ⟨[(2, .rp [.str v1.f0, fzL 3 c48 v1.f1]), (3, .rp [.str v2.f0, fzL 3 c48 v2.f1]), (7, .tv (ownL 3 49 c48 (v5 ++ [T48.mk ((v1.f1.getD v6.toNat default).f0) (if (0 : Int) > (if (v2.f1.getD v6.toNat default).f1 > (v1.f1.getD v6.toNat default).f1 then (v2.f1.getD v6.toNat default).f1 else (v1.f1.getD v6.toNat default).f1) then (0 : Int) else (if (v2.f1.getD v6.toNat default).f1 > (v1.f1.getD v6.toNat default).f1 then (v2.f1.getD v6.toNat default).f1 else (v1.f1.getD v6.toNat default).f1)) false]))), (23, .tv (.int .i64 (if v4 > v3 then v4 else v3))), (24, .tv (.int .i64 (w64 (v6 + (1 : Int)))))], []⟩ rfl ?_ (Nat.zero_le _) trivial ?_
        · kernel_rfl
        refine AOps.nil ?_
        cases h
        exact Or.inl ⟨_, rfl, rfl, rfl⟩
      · replace h := of_false h hb
        refine AWp.keepTo [2, 3, 7] 0 ⟨[(2, .rp [.str v1.f0, fzL 3 c48 v1.f1]), (3, .rp [.str v2.f0, fzL 3 c48 v2.f1]), (7, .tv (ownL 3 49 c48 v5))], []⟩ ?_ (Nat.zero_le _) ?_
        · kernel_rfl
        refine AWp.exit ?_
        cases h
        exact Or.inr ⟨_, rfl, by simp, rfl, rfl⟩
    · intro e σ hp
      rcases y with v8 | v7
      · obtain ⟨rfl, rfl⟩ := hp
        cases h
        exact ⟨.inr rfl, rfl⟩
      · obtain ⟨rfl, rfl⟩ := hp
        refine AWp.seq ?_
        refine AWp.freezeL 7 c48 v7 rfl (fun _ => rfl) ?_
        refine AWp.start [0, 1, 2] [3, 4, 5, 6, 7, 8, 9, 10] [] [3, 7, 51, 52, 53] 0 ⟨[(3, .rp [.str v2.f0, fzL 3 c48 v2.f1]), (7, .tv (fzL 3 c48 v7)), (51, .tv (fzL 3 c48 v7)), (52, .agg [.str v1.f0, fzL 3 c48 v1.f1]), (53, .tv (fzL 3 c48 v7))], []⟩ rfl ?_ (Nat.zero_le _) trivial ?_
        · kernel_rfl
        obtain ⟨v9, hv9, h⟩ := of_bind h
        refine AOps.cons (AOne.callP (F := (FF 60 0)) _ rfl rfl rfl _ rfl rfl _ _ rfl Try.call33 [.agg [.str v1.f0, fzL 3 c48 v1.f1], .tv (fzL 3 c48 v7)] rfl rfl (f33_ok v1 v7 hv9) rfl) ?_
        refine AOps.go [4] [5, 6, 7, 8, 9, 10] [] [3, 7, 51, 55] 0 ⟨[(3, .rp [.str v2.f0, fzL 3 c48 v2.f1]), (7, .tv (fzL 3 c48 v7)), (51, .tv (fzL 3 c48 v7)), (55, .tv (.bool v9))], []⟩ ?_ (Nat.zero_le _) trivial ?_
        · kernel_rfl
        obtain ⟨v11, hc5, h⟩ := of_bind h
        refine AOps.cut [5, 6, 7, 8] [9, 10] (fun σ => σ = ⟨[(51, .tv (fzL 3 c48 v7)), (59, .tv (.bool v11))], []⟩) ?_ fun σ' hJ => ?_
        · refine AOps.split (fun b => ⟨[(3, .rp [.str v2.f0, fzL 3 c48 v2.f1]), (7, .tv (fzL 3 c48 v7)), (51, .tv (fzL 3 c48 v7)), (55, .tv (.bool b))], []⟩) _ (fun hb => ?_) fun hb => ?_
          · replace hc5 := of_true hc5 hb
            refine AOps.go [5, 6] [7, 8] [] [51, 55, 56, 57] 0 ⟨[(51, .tv (fzL 3 c48 v7)), (55, .tv (.bool true)), (56, .agg [.str v2.f0, fzL 3 c48 v2.f1]), (57, .tv (fzL 3 c48 v7))], []⟩ ?_ (Nat.zero_le _) trivial ?_
            · kernel_rfl
            obtain ⟨v10, hv10, hc5⟩ := of_bind hc5
            refine AOps.cons (AOne.callP (F := (FF 60 0)) _ rfl rfl rfl _ rfl rfl _ _ rfl Try.call33 [.agg [.str v2.f0, fzL 3 c48 v2.f1], .tv (fzL 3 c48 v7)] rfl rfl (f33_ok v2 v7 hv10) rfl) ?_
            refine AOps.go [8] [] [] [51, 59] 0 ⟨[(51, .tv (fzL 3 c48 v7)), (59, .tv (.bool v10))], []⟩ ?_ (Nat.zero_le _) trivial ?_
            · kernel_rfl
            cases hc5
            exact AOps.nil rfl
          · replace hc5 := of_false hc5 hb
            refine AOps.go [5, 6, 7, 8] [] [] [51, 59] 0 ⟨[(51, .tv (fzL 3 c48 v7)), (59, .tv (.bool false))], []⟩ ?_ (Nat.zero_le _) trivial ?_
            · kernel_rfl
            cases hc5
            exact AOps.nil rfl
        subst hJ
        refine AOps.go [9, 10] [] [] [4, 5] 0 ⟨[(4, .tv (fzL 3 c48 v7)), (5, .tv (.bool v11))], []⟩ ?_ (Nat.zero_le _) trivial ?_
        · kernel_rfl
        refine AOps.nil ?_
        refine AWp.ret ?_
        cases h
        exact ⟨.inr rfl, rfl⟩

noncomputable def f41 (v1 : T31) (v2 : T31) : Option Bool :=
  (f43 v1 v2).bind fun v3 => (cond v3.2 ((f32 v1).bind fun v5 => (f32 v2).bind fun v6 => some (v5 == v6)) (some false)).bind fun v4 => some v4

theorem f41_ok (v1 : T31) (v2 : T31) {r : Bool} (h : f41 v1 v2 = some r) : ACall Try.prog 41 [.agg [.str v1.f0, fzL 3 c48 v1.f1], .agg [.str v2.f0, fzL 3 c48 v2.f1]] [] (.tv (.bool r)) [] := by
  refine ACall.of1 (FF 21 0) Try.func41 rfl Try.ntmps41 Try.results41 (Nat.le_of_ble_eq_true rfl) rfl rfl ?_
  refine AWp.seq ?_
  refine AWp.start [0, 1, 2] [] [] [2, 3] 2 ⟨[(2, .pc 0 0), (3, .pc 1 0)], [.cells 32 [.str v1.f0, fzL 3 c48 v1.f1], .cells 32 [.str v2.f0, fzL 3 c48 v2.f1]]⟩ rfl ?_ (Nat.zero_le _) trivial ?_
  · kernel_rfl
  refine AOps.nil ?_
  refine AWp.seq ?_
  refine AWp.pin 0 rfl rfl ?_
  refine AWp.pin 1 rfl rfl ?_
  refine AWp.keepTo [2, 3] 0 ⟨[(2, .rp [.str v1.f0, fzL 3 c48 v1.f1]), (3, .rp [.str v2.f0, fzL 3 c48 v2.f1])], []⟩ ?_ (Nat.zero_le _) ?_
  · kernel_rfl
  refine AWp.start [0, 1] [2, 3, 4, 5, 6, 7] [] [2, 3, 8, 9] 0 ⟨[(2, .rp [.str v1.f0, fzL 3 c48 v1.f1]), (3, .rp [.str v2.f0, fzL 3 c48 v2.f1]), (8, .agg [.str v1.f0, fzL 3 c48 v1.f1]), (9, .agg [.str v2.f0, fzL 3 c48 v2.f1])], []⟩ rfl ?_ (Nat.zero_le _) trivial ?_
  · kernel_rfl
  obtain ⟨v3, hv3, h⟩ := of_bind h
  refine AOps.cons (AOne.callP (F := (FF 21 0)) _ rfl rfl rfl _ rfl rfl _ _ rfl Try.call43 [.agg [.str v1.f0, fzL 3 c48 v1.f1], .agg [.str v2.f0, fzL 3 c48 v2.f1]] rfl rfl (f43_ok v1 v2 hv3) rfl) ?_
  refine AOps.go [3, 4, 5, 6, 7] [] [] [2, 3, 6] 0 ⟨[(2, .rp [.str v1.f0, fzL 3 c48 v1.f1]), (3, .rp [.str v2.f0, fzL 3 c48 v2.f1]), (6, .tv (.bool v3.2))], []⟩ ?_ (Nat.zero_le _) trivial ?_
  · kernel_rfl
  refine AOps.nil ?_
  refine AWp.seq ?_
  obtain ⟨v4, hd, h⟩ := of_bind h
  refine AWp.draw FFm (fun σ => σ = ⟨[(4, .tv (.bool v4))], []⟩) (n := 9) rfl (ls := #[false, false, false, false, false, false, false, false, false]) rfl ?_ ?_
  · refine AAny.go (by kernel_rfl) [0, 1] (fuel' := 7) rfl [] #[true, true, false, false, false, false, false, false, false] [2, 3, 14] 0 ⟨[(2, .rp [.str v1.f0, fzL 3 c48 v1.f1]), (3, .rp [.str v2.f0, fzL 3 c48 v2.f1]), (14, .tv (.bool v3.2))], []⟩ ?_ (Nat.zero_le _) trivial ?_
    · kernel_rfl
    refine AAny.split (fun b => ⟨[(2, .rp [.str v1.f0, fzL 3 c48 v1.f1]), (3, .rp [.str v2.f0, fzL 3 c48 v2.f1]), (14, .tv (.bool b))], []⟩) _ (fun hb => ?_) fun hb => ?_
    · replace hd := of_true hd hb
      refine AAny.go (by kernel_rfl) [2, 4] (fuel' := 5) rfl [] #[true, true, true, false, true, false, false, false, false] [14, 15, 17] 0 ⟨[(14, .tv (.bool true)), (15, .agg [.str v1.f0, fzL 3 c48 v1.f1]), (17, .agg [.str v2.f0, fzL 3 c48 v2.f1])], []⟩ ?_ (Nat.zero_le _) trivial ?_
      · kernel_rfl
      obtain ⟨v5, hv5, hd⟩ := of_bind hd
      refine AAny.serial (i := 3) (fuel := 4) (by kernel_rfl) (AOne.callP (F := (FF 21 0)) _ rfl rfl rfl _ rfl rfl _ _ rfl Try.call32 [.agg [.str v1.f0, fzL 3 c48 v1.f1]] rfl rfl (f32_ok v1 hv5) rfl) ?_
      refine AAny.keepTo [14, 16, 17] 0 ⟨[(14, .tv (.bool true)), (16, .tv (.bool v5)), (17, .agg [.str v2.f0, fzL 3 c48 v2.f1])], []⟩ #[true, true, true, true, true, false, false, false, false] ?_ rfl (Nat.zero_le _) ?_
      · kernel_rfl
      obtain ⟨v6, hv6, hd⟩ := of_bind hd
      refine AAny.serial (i := 5) (fuel := 3) (by kernel_rfl) (AOne.callP (F := (FF 21 0)) _ rfl rfl rfl _ rfl rfl _ _ rfl Try.call32 [.agg [.str v2.f0, fzL 3 c48 v2.f1]] rfl rfl (f32_ok v2 hv6) rfl) ?_
      refine AAny.keepTo [14, 16, 18] 0 ⟨[(14, .tv (.bool true)), (16, .tv (.bool v5)), (18, .tv (.bool v6))], []⟩ #[true, true, true, true, true, true, false, false, false] ?_ rfl (Nat.zero_le _) ?_
      · kernel_rfl
      refine AAny.go (by kernel_rfl) [6, 7, 8] (fuel' := 0) rfl [] #[true, true, true, true, true, true, true, true, true] [4] 0 ⟨[(4, .tv (.bool (v5 == v6)))], []⟩ ?_ (Nat.zero_le _) trivial ?_
      · kernel_rfl
      refine AAny.keepTo [4] 0 ⟨[(4, .tv (.bool (v5 == v6)))], []⟩ _ ?_ rfl (Nat.zero_le _) (AAny.done (by kernel_rfl) ?_)
      · kernel_rfl
      cases hd
      exact rfl
    · replace hd := of_false hd hb
      refine AAny.go (by kernel_rfl) [2, 3, 4, 5, 6, 7, 8] (fuel' := 0) rfl [] #[true, true, true, true, true, true, true, true, true] [4] 0 ⟨[(4, .tv (.bool false))], []⟩ ?_ (Nat.zero_le _) trivial ?_
      · kernel_rfl
      refine AAny.keepTo [4] 0 ⟨[(4, .tv (.bool false))], []⟩ _ ?_ rfl (Nat.zero_le _) (AAny.done (by kernel_rfl) ?_)
      · kernel_rfl
      cases hd
      exact rfl
  rintro σ' rfl
  refine AWp.ret ?_
  cases h
  exact ⟨.inr rfl, rfl⟩

noncomputable def f31_b1 (v1 : List T31) (v2 : Int) (v3 : Int) : Option (Int ⊕ Out (Int × Int × Bool) Unit) :=
  cond (decide (v3 < v2)) (if (0 : Int) ≤ v3 ∧ v3 < (v1.length : Int) ∧ (0 : Int) ≤ v2 ∧ v2 < (v1.length : Int) then (f41 (v1.getD v3.toNat default) (v1.getD v2.toNat default)).bind fun v4 => cond v4 (some (.inr (.ret (v3, v2, true)))) (some (.inl (w64 (v3 + (1 : Int))))) else none) (some (.inr (.go ())))

noncomputable def f31_b2 (v1 : List T31) (v2 : Int) : Option (Int ⊕ Out (Int × Int × Bool) Unit) :=
  cond (decide (v2 < (v1.length : Int))) ((iter (fun s => f31_b1 v1 v2 s) (0 : Int)).bind fun y => match y with | .ret v5 => some (.inr (.ret (v5.1, v5.2.1, v5.2.2))) | .go _ => some (.inl (w64 (v2 + (1 : Int))))) (some (.inr (.go ())))

noncomputable def f31 (v1 : List T31) : Option (Int × Int × Bool) :=
  (iter (fun s => f31_b2 v1 s) (0 : Int)).bind fun y => match y with | .ret v6 => some (v6.1, v6.2.1, v6.2.2) | .go _ => some ((0 : Int), (0 : Int), false)

theorem f31_ok (v1 : List T31) {r : Int × Int × Bool} (h : f31 v1 = some r) : ACall Try.prog 31 [.tv (fzL 2 c31 v1)] [] (.tup [.tv (.int .i64 r.1), .tv (.int .i64 r.2.1), .tv (.bool r.2.2)]) [] := by
  refine ACall.ofN (FF 29 0) (rs := [2, 3, 4]) (env := [(2, .tv (.int .i64 r.1)), (3, .tv (.int .i64 r.2.1)), (4, .tv (.bool r.2.2))]) Try.func31 rfl Try.ntmps31 Try.results31 (by decide) (by decide) rfl (Nat.le_of_ble_eq_true rfl) rfl (get_ofN _ _ _ rfl) (ok_ofN _ rfl) ?_
  refine AWp.seq ?_
  refine AWp.start [0, 1, 2] [] [] [0] 0 ⟨[(0, .tv (fzL 2 c31 v1))], []⟩ rfl ?_ (Nat.zero_le _) trivial ?_
  · kernel_rfl
  refine AOps.nil ?_
  refine AWp.seq ?_
  refine AWp.seq ?_
  refine AWp.start [0, 1, 2] [] [] [0, 8, 9] 0 ⟨[(0, .tv (fzL 2 c31 v1)), (8, .tv (.int .i64 (v1.length : Int))), (9, .tv (.int .i64 (0 : Int)))], []⟩ rfl ?_ (Nat.zero_le _) trivial ?_
  · kernel_rfl
  refine AOps.nil ?_
  refine AWp.block ?_
  obtain ⟨y, hy, h⟩ := of_bind h
  refine AWp.mono (AWp.loop (S := Int) (Y := Out (Int × Int × Bool) Unit) (fun s => ⟨[(0, .tv (fzL 2 c31 v1)), (8, .tv (.int .i64 (v1.length : Int))), (9, .tv (.int .i64 s))], []⟩) (fun s => f31_b2 v1 s) (fun y e σ => match y with | .ret r => e = .ret ∧ σ = ⟨[(2, .tv (.int .i64 r.1)), (3, .tv (.int .i64 r.2.1)), (4, .tv (.bool r.2.2))], []⟩ | .go v => e = .exit 0 ∧ σ = ⟨[], []⟩) ?_ hy) ?_
  · rintro v2 o h
    refine AWp.seq ?_
    refine AWp.start [0] [] [] [0, 8, 9, 10] 0 ⟨[(0, .tv (fzL 2 c31 v1)), (8, .tv (.int .i64 (v1.length : Int))), (9, .tv (.int .i64 v2)), (10, .tv (.bool (decide (v2 < (v1.length : Int)))))], []⟩ rfl ?_ (Nat.zero_le _) trivial ?_
    · kernel_rfl
    refine AOps.nil ?_
    refine AWp.seq ?_
    refine AWp.cond rfl (fun hb => ?_) fun hb => ?_
    · replace h := of_true h hb
      refine AWp.keepTo [0, 8, 9] 0 ⟨[(0, .tv (fzL 2 c31 v1)), (8, .tv (.int .i64 (v1.length : Int))), (9, .tv (.int .i64 v2))], []⟩ ?_ (Nat.zero_le _) ?_
      · kernel_rfl
      refine AWp.skip ?_
      refine AWp.seq ?_
      refine AWp.block ?_
      refine AWp.seq ?_
      refine AWp.start [0, 1] [] [] [0, 5, 8, 9] 0 ⟨[(0, .tv (fzL 2 c31 v1)), (5, .tv (.int .i64 v2)), (8, .tv (.int .i64 (v1.length : Int))), (9, .tv (.int .i64 v2))], []⟩ rfl ?_ (Nat.zero_le _) trivial ?_
      · kernel_rfl
      refine AOps.nil ?_
      refine AWp.seq ?_
      refine AWp.start [0, 1] [] [] [0, 5, 8, 9, 12, 13] 0 ⟨[(0, .tv (fzL 2 c31 v1)), (5, .tv (.int .i64 v2)), (8, .tv (.int .i64 (v1.length : Int))), (9, .tv (.int .i64 v2)), (12, .tv (.int .i64 v2)), (13, .tv (.int .i64 (0 : Int)))], []⟩ rfl ?_ (Nat.zero_le _) trivial ?_
      · kernel_rfl
      refine AOps.nil ?_
      refine AWp.block ?_
      obtain ⟨y, hy, h⟩ := of_bind h
      refine AWp.mono (AWp.loop (S := Int) (Y := Out (Int × Int × Bool) Unit) (fun s => ⟨[(0, .tv (fzL 2 c31 v1)), (5, .tv (.int .i64 v2)), (8, .tv (.int .i64 (v1.length : Int))), (9, .tv (.int .i64 v2)), (12, .tv (.int .i64 v2)), (13, .tv (.int .i64 s))], []⟩) (fun s => f31_b1 v1 v2 s) (fun y e σ => match y with | .ret r => e = .ret ∧ σ = ⟨[(2, .tv (.int .i64 r.1)), (3, .tv (.int .i64 r.2.1)), (4, .tv (.bool r.2.2))], []⟩ | .go v => e = .exit 2 ∧ σ = ⟨[(0, .tv (fzL 2 c31 v1)), (8, .tv (.int .i64 (v1.length : Int))), (9, .tv (.int .i64 v2))], []⟩) ?_ hy) ?_
      · rintro v3 o h
        refine AWp.seq ?_
        refine AWp.start [0] [] [] [0, 5, 8, 9, 12, 13, 14] 0 ⟨[(0, .tv (fzL 2 c31 v1)), (5, .tv (.int .i64 v2)), (8, .tv (.int .i64 (v1.length : Int))), (9, .tv (.int .i64 v2)), (12, .tv (.int .i64 v2)), (13, .tv (.int .i64 v3)), (14, .tv (.bool (decide (v3 < v2))))], []⟩ rfl ?_ (Nat.zero_le _) trivial ?_
        · kernel_rfl
        refine AOps.nil ?_
        refine AWp.seq ?_
        refine AWp.cond rfl (fun hb => ?_) fun hb => ?_
        · replace h := of_true h hb
          refine AWp.keepTo [0, 5, 8, 9, 12, 13] 0 ⟨[(0, .tv (fzL 2 c31 v1)), (5, .tv (.int .i64 v2)), (8, .tv (.int .i64 (v1.length : Int))), (9, .tv (.int .i64 v2)), (12, .tv (.int .i64 v2)), (13, .tv (.int .i64 v3))], []⟩ ?_ (Nat.zero_le _) ?_
          · kernel_rfl
          refine AWp.skip ?_
          refine AWp.seq ?_
          refine AWp.block ?_
          refine AWp.seq ?_
          refine AWp.start [0, 1] [] [] [0, 5, 6, 8, 9, 12, 13] 0 ⟨[(0, .tv (fzL 2 c31 v1)), (5, .tv (.int .i64 v2)), (6, .tv (.int .i64 v3)), (8, .tv (.int .i64 (v1.length : Int))), (9, .tv (.int .i64 v2)), (12, .tv (.int .i64 v2)), (13, .tv (.int .i64 v3))], []⟩ rfl ?_ (Nat.zero_le _) trivial ?_
          · kernel_rfl
          refine AOps.nil ?_
          refine AWp.seq ?_
          refine AWp.draw FFm _ (n := 9) rfl (ls := #[false, false, false, false, false, false, false, false, false]) rfl ?_ (fun _ h => h)
          obtain ⟨hg, h⟩ := of_guard h
          refine AAny.go (by kernel_rfl) [0, 1, 2, 3, 4, 5, 6, 7] (fuel' := 1) rfl [(0 : Int) ≤ v3, v3 < (v1.length : Int), (0 : Int) ≤ v2, v2 < (v1.length : Int)] #[true, true, true, true, true, true, true, true, false] [0, 5, 6, 8, 9, 12, 13, 19, 23] 0 ⟨[(0, .tv (fzL 2 c31 v1)), (5, .tv (.int .i64 v2)), (6, .tv (.int .i64 v3)), (8, .tv (.int .i64 (v1.length : Int))), (9, .tv (.int .i64 v2)), (12, .tv (.int .i64 v2)), (13, .tv (.int .i64 v3)), (19, .agg [.str ((v1.getD v3.toNat default).f0), fzL 3 c48 ((v1.getD v3.toNat default).f1)]), (23, .agg [.str ((v1.getD v2.toNat default).f0), fzL 3 c48 ((v1.getD v2.toNat default).f1)])], []⟩ ?_ (Nat.zero_le _) ⟨hg.1, hg.2.1, hg.2.2.1, hg.2.2.2⟩ ?_
          · kernel_rfl
          obtain ⟨v4, hv4, h⟩ := of_bind h
          refine AAny.serial (i := 8) (fuel := 0) (by kernel_rfl) (AOne.callP (F := (FF 29 0)) _ rfl rfl rfl _ rfl rfl _ _ rfl Try.call41 [.agg [.str ((v1.getD v3.toNat default).f0), fzL 3 c48 ((v1.getD v3.toNat default).f1)], .agg [.str ((v1.getD v2.toNat default).f0), fzL 3 c48 ((v1.getD v2.toNat default).f1)]] rfl rfl (f41_ok (v1.getD v3.toNat default) (v1.getD v2.toNat default) hv4) rfl) ?_
          refine AAny.keepTo [0, 5, 6, 8, 9, 12, 13, 24] 0 ⟨[(0, .tv (fzL 2 c31 v1)), (5, .tv (.int .i64 v2)), (6, .tv (.int .i64 v3)), (8, .tv (.int .i64 (v1.length : Int))), (9, .tv (.int .i64 v2)), (12, .tv (.int .i64 v2)), (13, .tv (.int .i64 v3)), (24, .tv (.bool v4))], []⟩ #[true, true, true, true, true, true, true, true, true] ?_ rfl (Nat.zero_le _) ?_
          · kernel_rfl
          refine AAny.keepTo [0, 5, 6, 8, 9, 12, 13, 24] 0 ⟨[(0, .tv (fzL 2 c31 v1)), (5, .tv (.int .i64 v2)), (6, .tv (.int .i64 v3)), (8, .tv (.int .i64 (v1.length : Int))), (9, .tv (.int .i64 v2)), (12, .tv (.int .i64 v2)), (13, .tv (.int .i64 v3)), (24, .tv (.bool v4))], []⟩ _ ?_ rfl (Nat.zero_le _) (AAny.done (by kernel_rfl) ?_)
          · kernel_rfl
          refine AWp.cond rfl (fun hb => ?_) fun hb => ?_
          · replace h := of_true h hb
            refine AWp.keepTo [5, 6] 0 ⟨[(5, .tv (.int .i64 v2)), (6, .tv (.int .i64 v3))], []⟩ ?_ (Nat.zero_le _) ?_
            · kernel_rfl
            refine AWp.seq ?_
            refine AWp.start [0, 1, 2, 3, 4] [] [] [2, 3, 4] 0 ⟨[(2, .tv (.int .i64 v3)), (3, .tv (.int .i64 v2)), (4, .tv (.bool true))], []⟩ rfl ?_ (Nat.zero_le _) trivial ?_
            · kernel_rfl
            refine AOps.nil ?_
            refine AWp.ret ?_
            cases h
            exact Or.inr ⟨_, rfl, by simp, rfl, rfl⟩
          · replace h := of_false h hb
            refine AWp.keepTo [0, 5, 8, 9, 12, 13] 0 ⟨[(0, .tv (fzL 2 c31 v1)), (5, .tv (.int .i64 v2)), (8, .tv (.int .i64 (v1.length : Int))), (9, .tv (.int .i64 v2)), (12, .tv (.int .i64 v2)), (13, .tv (.int .i64 v3))], []⟩ ?_ (Nat.zero_le _) ?_
            · kernel_rfl
            refine AWp.skip ?_
            refine AWp.start [0, 1] [] [] [0, 5, 8, 9, 12, 13] 0 ⟨[(0, .tv (fzL 2 c31 v1)), (5, .tv (.int .i64 v2)), (8, .tv (.int .i64 (v1.length : Int))), (9, .tv (.int .i64 v2)), (12, .tv (.int .i64 v2)), (13, .tv (.int .i64 (w64 (v3 + (1 : Int)))))], []⟩ rfl ?_ (Nat.zero_le _) trivial ?_
            · kernel_rfl
            refine AOps.nil ?_
            cases h
            exact Or.inl ⟨_, rfl, rfl, rfl⟩
        · replace h := of_false h hb
          refine AWp.keepTo [0, 8, 9] 0 ⟨[(0, .tv (fzL 2 c31 v1)), (8, .tv (.int .i64 (v1.length : Int))), (9, .tv (.int .i64 v2))], []⟩ ?_ (Nat.zero_le _) ?_
          · kernel_rfl
          refine AWp.exit ?_
          cases h
          exact Or.inr ⟨_, rfl, by simp, rfl, rfl⟩
      · intro e σ hp
        rcases y with v5 | _
        · obtain ⟨rfl, rfl⟩ := hp
          cases h
          exact Or.inr ⟨_, rfl, by simp, rfl, rfl⟩
        · obtain ⟨rfl, rfl⟩ := hp
          refine AWp.start [0, 1] [] [] [0, 8, 9] 0 ⟨[(0, .tv (fzL 2 c31 v1)), (8, .tv (.int .i64 (v1.length : Int))), (9, .tv (.int .i64 (w64 (v2 + (1 : Int)))))], []⟩ rfl ?_ (Nat.zero_le _) trivial ?_
          · kernel_rfl
          refine AOps.nil ?_
          cases h
          exact Or.inl ⟨_, rfl, rfl, rfl⟩
    · replace h := of_false h hb
      refine AWp.keepTo [] 0 ⟨[], []⟩ ?_ (Nat.zero_le _) ?_
      · kernel_rfl
      refine AWp.exit ?_
      cases h
      exact Or.inr ⟨_, rfl, by simp, rfl, rfl⟩
  · intro e σ hp
    rcases y with v6 | _
    · obtain ⟨rfl, rfl⟩ := hp
      cases h
      exact ⟨.inr rfl, rfl⟩
    · obtain ⟨rfl, rfl⟩ := hp
      refine AWp.seq ?_
      refine AWp.start [0, 1, 2] [] [] [2, 3, 4] 0 ⟨[(2, .tv (.int .i64 (0 : Int))), (3, .tv (.int .i64 (0 : Int))), (4, .tv (.bool false))], []⟩ rfl ?_ (Nat.zero_le _) trivial ?_
      · kernel_rfl
      refine AOps.nil ?_
      refine AWp.ret ?_
      cases h
      exact ⟨.inr rfl, rfl⟩

end Go.Sx.gen
