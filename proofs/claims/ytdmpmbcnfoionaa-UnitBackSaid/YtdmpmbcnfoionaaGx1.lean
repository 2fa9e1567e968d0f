/- Printed by program (wip/gen): plain functions and their walks; no condition. -/
import Derived.Test.YtdmpmbcnfoionaaGx0
namespace Go.Sx.unit
open Go Go.Sx Go.Proofs

noncomputable def f11_b1 (v1 : List Int) (v2 : List (List Int)) (v3 : Int) : Option (((List (List Int)) × Int) ⊕ Out ((List (List Int)) × Int) (List (List Int))) :=
  cond (decide (v3 < (v1.length : Int))) ((f38 v1 v3).bind fun v5 => (cond (decide (v5 < (0 : Int))) (some true) (some (decide (v5 > (1000 : Int))))).bind fun v6 => (cond v6 (some true) (some (decide (w64 ((w64 (v3 + (8 : Int))) + v5) > (v1.length : Int))))).bind fun v7 => (cond v7 (some true) ((f38 v1 (w64 ((w64 (v3 + (4 : Int))) + v5))).bind fun v9 => some (v9 != v5))).bind fun v8 => cond v8 (some (.inr (.ret (([] : List (List Int)), (3 : Int))))) (if (0 : Int) ≤ w64 (v3 + (4 : Int)) ∧ w64 (v3 + (4 : Int)) ≤ w64 ((w64 (v3 + (4 : Int))) + v5) ∧ w64 ((w64 (v3 + (4 : Int))) + v5) ≤ (v1.length : Int) then if (([] : List Int).length + ((v1.take (Int.toNat (w64 ((w64 (v3 + (4 : Int))) + v5)))).drop (Int.toNat (w64 (v3 + (4 : Int))))).length) * 1 ≤ 140737488355328 then if (v2.length + ([([] : List Int) ++ ((v1.take (Int.toNat (w64 ((w64 (v3 + (4 : Int))) + v5)))).drop (Int.toNat (w64 (v3 + (4 : Int)))))]).length) * 24 ≤ 140737488355328 then some (.inl (v2 ++ ([([] : List Int) ++ ((v1.take (Int.toNat (w64 ((w64 (v3 + (4 : Int))) + v5)))).drop (Int.toNat (w64 (v3 + (4 : Int)))))]), w64 (v3 + (w64 ((8 : Int) + v5))))) else none else none else none)) (some (.inr (.go v2)))

noncomputable def f11 (v1 : List Int) : Option ((List (List Int)) × Int) :=
  (iter (fun s => f11_b1 v1 s.1 s.2) ([], (0 : Int))).bind fun y => match y with | .ret v10 => some (v10.1, v10.2) | .go v4 => some (v4, (0 : Int))

theorem f11_ok (v1 : List Int) {r : (List (List Int)) × Int} (h : f11 v1 = some r) : ACall Try.prog 11 [.tv (fzL 1 (cInt .u8) v1)] [] (.tup [.tv (fzL 1 (cSl 1 (cInt .u8)) r.1), .tv (.int .i64 r.2)]) [] := by
  refine ACall.ofN (FF 57 0) (rs := [2, 3]) (env := [(2, .tv (fzL 1 (cSl 1 (cInt .u8)) r.1)), (3, .tv (.int .i64 r.2))]) Try.func11 rfl Try.ntmps11 Try.results11 (by decide) (by decide) rfl (Nat.le_of_ble_eq_true rfl) rfl (get_ofN _ _ _ rfl) (ok_ofN _ rfl) ?_
  refine AWp.seq ?_
  refine AWp.start [0, 1] [] [] [0] 0 ⟨[(0, .tv (fzL 1 (cInt .u8) v1))], []⟩ rfl ?_ (Nat.zero_le _) trivial ?_
  · kernel_rfl
  refine AOps.nil ?_
  refine AWp.seq ?_
  refine AWp.start [0] [] [] [0, 4] 0 ⟨[(0, .tv (fzL 1 (cInt .u8) v1)), (4, .tv (.sc (.slice none 0 0)))], []⟩ rfl ?_ (Nat.zero_le _) trivial ?_
  · kernel_rfl
  refine AOps.nil ?_
  refine AWp.seq ?_
  refine AWp.seq ?_
  refine AWp.start [0] [] [] [0, 4, 5] 0 ⟨[(0, .tv (fzL 1 (cInt .u8) v1)), (4, .tv (.sc (.slice none 0 0))), (5, .tv (.int .i64 (0 : Int)))], []⟩ rfl ?_ (Nat.zero_le _) trivial ?_
  · kernel_rfl
  refine AOps.nil ?_
  refine AWp.block ?_
  refine AWp.nilOwn 4 1 22 (fun i => (cSl 1 (cInt .u8)) (([] : List (List Int)).getD i default)) rfl ?_
  refine AWp.keepTo [0, 4, 5] 0 ⟨[(0, .tv (fzL 1 (cInt .u8) v1)), (4, .tv (ownL 1 22 (cSl 1 (cInt .u8)) ([] : List (List Int)))), (5, .tv (.int .i64 (0 : Int)))], []⟩ ?_ (Nat.zero_le _) ?_
  · kernel_rfl
  obtain ⟨y, hy, h⟩ := of_bind h
  refine AWp.mono (AWp.loop (S := (List (List Int)) × Int) (Y := Out ((List (List Int)) × Int) (List (List Int))) (fun s => ⟨[(0, .tv (fzL 1 (cInt .u8) v1)), (4, .tv (ownL 1 22 (cSl 1 (cInt .u8)) s.1)), (5, .tv (.int .i64 s.2))], []⟩) (fun s => f11_b1 v1 s.1 s.2) (fun y e σ => match y with | .ret r => e = .ret ∧ σ = ⟨[(2, .tv (fzL 1 (cSl 1 (cInt .u8)) r.1)), (3, .tv (.int .i64 r.2))], []⟩ | .go v => e = .exit 0 ∧ σ = ⟨[(4, .tv (ownL 1 22 (cSl 1 (cInt .u8)) v))], []⟩) ?_ hy) ?_
  · rintro ⟨v2, v3⟩ o h
    refine AWp.seq ?_
    refine AWp.seq ?_
    refine AWp.start [0, 1, 2, 3] [] [] [0, 4, 5, 10] 0 ⟨[(0, .tv (fzL 1 (cInt .u8) v1)), (4, .tv (ownL 1 22 (cSl 1 (cInt .u8)) v2)), (5, .tv (.int .i64 v3)), (10, .tv (.bool (decide (v3 < (v1.length : Int)))))], []⟩ rfl ?_ (Nat.zero_le _) trivial ?_
    · kernel_rfl
    refine AOps.nil ?_
    refine AWp.cond rfl (fun hb => ?_) fun hb => ?_
    · replace h := of_true h hb
      refine AWp.keepTo [0, 4, 5] 0 ⟨[(0, .tv (fzL 1 (cInt .u8) v1)), (4, .tv (ownL 1 22 (cSl 1 (cInt .u8)) v2)), (5, .tv (.int .i64 v3))], []⟩ ?_ (Nat.zero_le _) ?_
      · kernel_rfl
      refine AWp.skip ?_
      refine AWp.block ?_
      refine AWp.seq ?_
      refine AWp.start [0, 1] [2, 3] [] [0, 4, 5, 11, 12] 0 ⟨[(0, .tv (fzL 1 (cInt .u8) v1)), (4, .tv (ownL 1 22 (cSl 1 (cInt .u8)) v2)), (5, .tv (.int .i64 v3)), (11, .tv (fzL 1 (cInt .u8) v1)), (12, .tv (.int .i64 v3))], []⟩ rfl ?_ (Nat.zero_le _) trivial ?_
      · kernel_rfl
      obtain ⟨v5, hv5, h⟩ := of_bind h
      refine AOps.cons (AOne.callP (F := (FF 57 0)) _ rfl rfl rfl _ rfl rfl _ _ rfl Try.call38 [.tv (fzL 1 (cInt .u8) v1), .tv (.int .i64 v3)] rfl rfl (f38_ok v1 v3 hv5) rfl) ?_
      refine AOps.go [3] [] [] [0, 4, 5, 6] 0 ⟨[(0, .tv (fzL 1 (cInt .u8) v1)), (4, .tv (ownL 1 22 (cSl 1 (cInt .u8)) v2)), (5, .tv (.int .i64 v3)), (6, .tv (.int .i64 v5))], []⟩ ?_ (Nat.zero_le _) trivial ?_
      · kernel_rfl
      refine AOps.nil ?_
      refine AWp.seq ?_
      refine AWp.seq ?_
      refine AWp.start [0, 1, 2] [3, 4, 5, 6, 7, 8, 9, 10, 11, 12, 13, 14, 15, 16, 17, 18, 19, 20, 21, 22, 23, 24] [] [0, 4, 5, 6, 16] 0 ⟨[(0, .tv (fzL 1 (cInt .u8) v1)), (4, .tv (ownL 1 22 (cSl 1 (cInt .u8)) v2)), (5, .tv (.int .i64 v3)), (6, .tv (.int .i64 v5)), (16, .tv (.bool (decide (v5 < (0 : Int)))))], []⟩ rfl ?_ (Nat.zero_le _) trivial ?_
      · kernel_rfl
      obtain ⟨v6, hc3, h⟩ := of_bind h
      refine AOps.cut [3, 4, 5] [6, 7, 8, 9, 10, 11, 12, 13, 14, 15, 16, 17, 18, 19, 20, 21, 22, 23, 24] (fun σ => σ = ⟨[(0, .tv (fzL 1 (cInt .u8) v1)), (4, .tv (ownL 1 22 (cSl 1 (cInt .u8)) v2)), (5, .tv (.int .i64 v3)), (6, .tv (.int .i64 v5)), (19, .tv (.bool v6))], []⟩) ?_ fun σ' hJ => ?_
      · refine AOps.split (fun b => ⟨[(0, .tv (fzL 1 (cInt .u8) v1)), (4, .tv (ownL 1 22 (cSl 1 (cInt .u8)) v2)), (5, .tv (.int .i64 v3)), (6, .tv (.int .i64 v5)), (16, .tv (.bool b))], []⟩) _ (fun hb => ?_) fun hb => ?_
        · replace hc3 := of_true hc3 hb
          refine AOps.go [3, 4, 5] [] [] [0, 4, 5, 6, 19] 0 ⟨[(0, .tv (fzL 1 (cInt .u8) v1)), (4, .tv (ownL 1 22 (cSl 1 (cInt .u8)) v2)), (5, .tv (.int .i64 v3)), (6, .tv (.int .i64 v5)), (19, .tv (.bool true))], []⟩ ?_ (Nat.zero_le _) trivial ?_
          · kernel_rfl
          cases hc3
          exact AOps.nil rfl
        · replace hc3 := of_false hc3 hb
          refine AOps.go [3, 4, 5] [] [] [0, 4, 5, 6, 19] 0 ⟨[(0, .tv (fzL 1 (cInt .u8) v1)), (4, .tv (ownL 1 22 (cSl 1 (cInt .u8)) v2)), (5, .tv (.int .i64 v3)), (6, .tv (.int .i64 v5)), (19, .tv (.bool (decide (v5 > (1000 : Int)))))], []⟩ ?_ (Nat.zero_le _) trivial ?_
          · kernel_rfl
          cases hc3
          exact AOps.nil rfl
      subst hJ
      refine AOps.go [6] [7, 8, 9, 10, 11, 12, 13, 14, 15, 16, 17, 18, 19, 20, 21, 22, 23, 24] [] [0, 4, 5, 6, 20] 0 ⟨[(0, .tv (fzL 1 (cInt .u8) v1)), (4, .tv (ownL 1 22 (cSl 1 (cInt .u8)) v2)), (5, .tv (.int .i64 v3)), (6, .tv (.int .i64 v5)), (20, .tv (.bool v6))], []⟩ ?_ (Nat.zero_le _) trivial ?_
      · kernel_rfl
      obtain ⟨v7, hc7, h⟩ := of_bind h
      refine AOps.cut [7, 8, 9, 10, 11, 12, 13, 14] [15, 16, 17, 18, 19, 20, 21, 22, 23, 24] (fun σ => σ = ⟨[(0, .tv (fzL 1 (cInt .u8) v1)), (4, .tv (ownL 1 22 (cSl 1 (cInt .u8)) v2)), (5, .tv (.int .i64 v3)), (6, .tv (.int .i64 v5)), (28, .tv (.bool v7))], []⟩) ?_ fun σ' hJ => ?_
      · refine AOps.split (fun b => ⟨[(0, .tv (fzL 1 (cInt .u8) v1)), (4, .tv (ownL 1 22 (cSl 1 (cInt .u8)) v2)), (5, .tv (.int .i64 v3)), (6, .tv (.int .i64 v5)), (20, .tv (.bool b))], []⟩) _ (fun hb => ?_) fun hb => ?_
        · replace hc7 := of_true hc7 hb
          refine AOps.go [7, 8, 9, 10, 11, 12, 13, 14] [] [] [0, 4, 5, 6, 28] 0 ⟨[(0, .tv (fzL 1 (cInt .u8) v1)), (4, .tv (ownL 1 22 (cSl 1 (cInt .u8)) v2)), (5, .tv (.int .i64 v3)), (6, .tv (.int .i64 v5)), (28, .tv (.bool true))], []⟩ ?_ (Nat.zero_le _) trivial ?_
          · kernel_rfl
          cases hc7
          exact AOps.nil rfl
        · replace hc7 := of_false hc7 hb
          refine AOps.go [7, 8, 9, 10, 11, 12, 13, 14] [] [] [0, 4, 5, 6, 28] 0 ⟨[(0, .tv (fzL 1 (cInt .u8) v1)), (4, .tv (ownL 1 22 (cSl 1 (cInt .u8)) v2)), (5, .tv (.int .i64 v3)), (6, .tv (.int .i64 v5)), (28, .tv (.bool (decide (w64 ((w64 (v3 + (8 : Int))) + v5) > (v1.length : Int)))))], []⟩ ?_ (Nat.zero_le _) trivial ?_
          · kernel_rfl
          cases hc7
          exact AOps.nil rfl
      subst hJ
      refine AOps.go [15] [16, 17, 18, 19, 20, 21, 22, 23, 24] [] [0, 4, 5, 6, 29] 0 ⟨[(0, .tv (fzL 1 (cInt .u8) v1)), (4, .tv (ownL 1 22 (cSl 1 (cInt .u8)) v2)), (5, .tv (.int .i64 v3)), (6, .tv (.int .i64 v5)), (29, .tv (.bool v7))], []⟩ ?_ (Nat.zero_le _) trivial ?_
      · kernel_rfl
      obtain ⟨v8, hc16, h⟩ := of_bind h
      refine AOps.cut [16, 17, 18, 19, 20, 21, 22, 23, 24] [] (fun σ => σ = ⟨[(0, .tv (fzL 1 (cInt .u8) v1)), (4, .tv (ownL 1 22 (cSl 1 (cInt .u8)) v2)), (5, .tv (.int .i64 v3)), (6, .tv (.int .i64 v5)), (38, .tv (.bool v8))], []⟩) ?_ fun σ' hJ => ?_
      · refine AOps.split (fun b => ⟨[(0, .tv (fzL 1 (cInt .u8) v1)), (4, .tv (ownL 1 22 (cSl 1 (cInt .u8)) v2)), (5, .tv (.int .i64 v3)), (6, .tv (.int .i64 v5)), (29, .tv (.bool b))], []⟩) _ (fun hb => ?_) fun hb => ?_
        · replace hc16 := of_true hc16 hb
          refine AOps.go [16, 17, 18, 19, 20, 21, 22, 23, 24] [] [] [0, 4, 5, 6, 38] 0 ⟨[(0, .tv (fzL 1 (cInt .u8) v1)), (4, .tv (ownL 1 22 (cSl 1 (cInt .u8)) v2)), (5, .tv (.int .i64 v3)), (6, .tv (.int .i64 v5)), (38, .tv (.bool true))], []⟩ ?_ (Nat.zero_le _) trivial ?_
          · kernel_rfl
          cases hc16
          exact AOps.nil rfl
        · replace hc16 := of_false hc16 hb
          refine AOps.go [16, 17, 18, 19, 20] [21, 22, 23, 24] [] [0, 4, 5, 6, 29, 30, 34] 0 ⟨[(0, .tv (fzL 1 (cInt .u8) v1)), (4, .tv (ownL 1 22 (cSl 1 (cInt .u8)) v2)), (5, .tv (.int .i64 v3)), (6, .tv (.int .i64 v5)), (29, .tv (.bool false)), (30, .tv (fzL 1 (cInt .u8) v1)), (34, .tv (.int .i64 (w64 ((w64 (v3 + (4 : Int))) + v5))))], []⟩ ?_ (Nat.zero_le _) trivial ?_
          · kernel_rfl
          obtain ⟨v9, hv9, hc16⟩ := of_bind hc16
          refine AOps.cons (AOne.callP (F := (FF 57 0)) _ rfl rfl rfl _ rfl rfl _ _ rfl Try.call38 [.tv (fzL 1 (cInt .u8) v1), .tv (.int .i64 (w64 ((w64 (v3 + (4 : Int))) + v5)))] rfl rfl (f38_ok v1 (w64 ((w64 (v3 + (4 : Int))) + v5)) hv9) rfl) ?_
          refine AOps.go [22, 23, 24] [] [] [0, 4, 5, 6, 38] 0 ⟨[(0, .tv (fzL 1 (cInt .u8) v1)), (4, .tv (ownL 1 22 (cSl 1 (cInt .u8)) v2)), (5, .tv (.int .i64 v3)), (6, .tv (.int .i64 v5)), (38, .tv (.bool (v9 != v5)))], []⟩ ?_ (Nat.zero_le _) trivial ?_
          · kernel_rfl
          cases hc16
          exact AOps.nil rfl
      subst hJ
      refine AOps.nil ?_
      refine AWp.cond rfl (fun hb => ?_) fun hb => ?_
      · replace h := of_true h hb
        refine AWp.keepTo [] 0 ⟨[], []⟩ ?_ (Nat.zero_le _) ?_
        · kernel_rfl
        refine AWp.seq ?_
        refine AWp.start [0, 1] [] [] [2, 3] 0 ⟨[(2, .tv (.sc (.slice none 0 0))), (3, .tv (.int .i64 (3 : Int)))], []⟩ rfl ?_ (Nat.zero_le _) trivial ?_
        · kernel_rfl
        refine AOps.nil ?_
        refine AWp.nilFz 2 1 (fun i => (cSl 1 (cInt .u8)) (([] : List (List Int)).getD i default)) rfl ?_
        refine AWp.keepTo [2, 3] 0 ⟨[(2, .tv (fzL 1 (cSl 1 (cInt .u8)) ([] : List (List Int)))), (3, .tv (.int .i64 (3 : Int)))], []⟩ ?_ (Nat.zero_le _) ?_
        · kernel_rfl
        refine AWp.ret ?_
        cases h
        exact Or.inr ⟨_, rfl, by simp, rfl, rfl⟩
      · replace h := of_false h hb
        refine AWp.keepTo [0, 4, 5, 6] 0 ⟨[(0, .tv (fzL 1 (cInt .u8) v1)), (4, .tv (ownL 1 22 (cSl 1 (cInt .u8)) v2)), (5, .tv (.int .i64 v3)), (6, .tv (.int .i64 v5))], []⟩ ?_ (Nat.zero_le _) ?_
        · kernel_rfl
        refine AWp.skip ?_
        refine AWp.seq ?_
        refine AWp.start [0, 1] [2, 3, 4, 5, 6, 7, 8, 9, 10, 11, 12, 13] [] [0, 4, 5, 6, 39, 40] 0 ⟨[(0, .tv (fzL 1 (cInt .u8) v1)), (4, .tv (ownL 1 22 (cSl 1 (cInt .u8)) v2)), (5, .tv (.int .i64 v3)), (6, .tv (.int .i64 v5)), (39, .al (.slot 4 0, [])), (40, .tv (.own 1 5 0 (newRowF [] 1)))], []⟩ rfl ?_ (Nat.zero_le _) trivial ?_
        · kernel_rfl
        refine AOps.extL 40 (cInt .u8) ([] : List Int) rfl rfl (row_at (cInt .u8) 1 (fun _ => rfl) ([] : List Int) _ rfl) ?_
        obtain ⟨hg, h⟩ := of_guard h
        refine AOps.go [2, 3, 4, 5, 6, 7, 8, 9] [10, 11, 12, 13] [(0 : Int) ≤ w64 (v3 + (4 : Int)), w64 (v3 + (4 : Int)) ≤ w64 ((w64 (v3 + (4 : Int))) + v5), w64 ((w64 (v3 + (4 : Int))) + v5) ≤ (v1.length : Int)] [0, 4, 5, 6, 39, 40, 48] 0 ⟨[(0, .tv (fzL 1 (cInt .u8) v1)), (4, .tv (ownL 1 22 (cSl 1 (cInt .u8)) v2)), (5, .tv (.int .i64 v3)), (6, .tv (.int .i64 v5)), (39, .al (.slot 4 0, [])), (40, .tv (ownL 1 5 (cInt .u8) ([] : List Int))), (48, .tv (.fz 1 ((Int.toNat (w64 ((w64 (v3 + (4 : Int))) + v5))) - (Int.toNat (w64 (v3 + (4 : Int))))) (fun i => (cInt .u8) (v1.getD ((Int.toNat (w64 (v3 + (4 : Int)))) + i) default))))], []⟩ ?_ (Nat.zero_le _) ⟨hg.1, hg.2.1, hg.2.2⟩ ?_
        · kernel_rfl
        have hb : (Int.toNat (w64 ((w64 (v3 + (4 : Int))) + v5))) ≤ v1.length := by have hh : w64 ((w64 (v3 + (4 : Int))) + v5) ≤ (v1.length : Int) := hg.2.2; omega
        refine AOps.extFzL (s := 48) rfl (sub_len v1 (Int.toNat (w64 (v3 + (4 : Int)))) (Int.toNat (w64 ((w64 (v3 + (4 : Int))) + v5))) hb) (sub_at (cInt .u8) v1 (Int.toNat (w64 (v3 + (4 : Int)))) (Int.toNat (w64 ((w64 (v3 + (4 : Int))) + v5))) hb) ?_
        obtain ⟨hg, h⟩ := of_guard h
        refine AOps.go [10] [11, 12, 13] [(([] : List Int).length + ((v1.take (Int.toNat (w64 ((w64 (v3 + (4 : Int))) + v5)))).drop (Int.toNat (w64 (v3 + (4 : Int))))).length) * 1 ≤ 140737488355328, PlainTo (([] : List Int).length) (fun i => (cInt .u8) (([] : List Int).getD i default)), PlainTo (((v1.take (Int.toNat (w64 ((w64 (v3 + (4 : Int))) + v5)))).drop (Int.toNat (w64 (v3 + (4 : Int))))).length) (fun i => (cInt .u8) (((v1.take (Int.toNat (w64 ((w64 (v3 + (4 : Int))) + v5)))).drop (Int.toNat (w64 (v3 + (4 : Int))))).getD i default))] [0, 4, 5, 6, 39, 49] 0 ⟨[(0, .tv (fzL 1 (cInt .u8) v1)), (4, .tv (ownL 1 22 (cSl 1 (cInt .u8)) v2)), (5, .tv (.int .i64 v3)), (6, .tv (.int .i64 v5)), (39, .al (.slot 4 0, [])), (49, .tv (.own 1 5 (([] : List Int).length + ((v1.take (Int.toNat (w64 ((w64 (v3 + (4 : Int))) + v5)))).drop (Int.toNat (w64 (v3 + (4 : Int))))).length) (appF (([] : List Int).length) (fun i => (cInt .u8) (([] : List Int).getD i default)) (fun i => (cInt .u8) (((v1.take (Int.toNat (w64 ((w64 (v3 + (4 : Int))) + v5)))).drop (Int.toNat (w64 (v3 + (4 : Int))))).getD i default)))))], []⟩ ?_ (Nat.zero_le _) ⟨hg, (fun _ _ => rfl), (fun _ _ => rfl)⟩ ?_
        · kernel_rfl
        refine AOps.extL 49 (cInt .u8) (([] : List Int) ++ ((v1.take (Int.toNat (w64 ((w64 (v3 + (4 : Int))) + v5)))).drop (Int.toNat (w64 (v3 + (4 : Int)))))) rfl List.length_append.symm (app_at (cInt .u8) ([] : List Int) ((v1.take (Int.toNat (w64 ((w64 (v3 + (4 : Int))) + v5)))).drop (Int.toNat (w64 (v3 + (4 : Int)))))) ?_
        refine AOps.freezeL 49 (cInt .u8) (([] : List Int) ++ ((v1.take (Int.toNat (w64 ((w64 (v3 + (4 : Int))) + v5)))).drop (Int.toNat (w64 (v3 + (4 : Int)))))) rfl (fun _ => rfl) ?_
        refine AOps.go [11] [12, 13] [] [0, 4, 5, 6, 39, 50] 0 ⟨[(0, .tv (fzL 1 (cInt .u8) v1)), (4, .tv (ownL 1 22 (cSl 1 (cInt .u8)) v2)), (5, .tv (.int .i64 v3)), (6, .tv (.int .i64 v5)), (39, .al (.slot 4 0, [])), (50, .tv (.own 1 22 1 (newRowF [fzL 1 (cInt .u8) (([] : List Int) ++ ((v1.take (Int.toNat (w64 ((w64 (v3 + (4 : Int))) + v5)))).drop (Int.toNat (w64 (v3 + (4 : Int))))))] 1)))], []⟩ ?_ (Nat.zero_le _) trivial ?_
        · kernel_rfl
        refine AOps.extL 50 (cSl 1 (cInt .u8)) ([([] : List Int) ++ ((v1.take (Int.toNat (w64 ((w64 (v3 + (4 : Int))) + v5)))).drop (Int.toNat (w64 (v3 + (4 : Int)))))]) rfl rfl (row_at (cSl 1 (cInt .u8)) 1 (fun _ => rfl) [([] : List Int) ++ ((v1.take (Int.toNat (w64 ((w64 (v3 + (4 : Int))) + v5)))).drop (Int.toNat (w64 (v3 + (4 : Int)))))] _ rfl) ?_
        obtain ⟨hg, h⟩ := of_guard h
        refine AOps.go [12] [13] [(v2.length + ([([] : List Int) ++ ((v1.take (Int.toNat (w64 ((w64 (v3 + (4 : Int))) + v5)))).drop (Int.toNat (w64 (v3 + (4 : Int)))))]).length) * 24 ≤ 140737488355328, PlainTo v2.length (fun i => (cSl 1 (cInt .u8)) (v2.getD i default)), PlainTo (([([] : List Int) ++ ((v1.take (Int.toNat (w64 ((w64 (v3 + (4 : Int))) + v5)))).drop (Int.toNat (w64 (v3 + (4 : Int)))))]).length) (fun i => (cSl 1 (cInt .u8)) (([([] : List Int) ++ ((v1.take (Int.toNat (w64 ((w64 (v3 + (4 : Int))) + v5)))).drop (Int.toNat (w64 (v3 + (4 : Int)))))]).getD i default))] [0, 5, 6, 51] 0 ⟨[(0, .tv (fzL 1 (cInt .u8) v1)), (5, .tv (.int .i64 v3)), (6, .tv (.int .i64 v5)), (51, .tv (.own 1 22 (v2.length + ([([] : List Int) ++ ((v1.take (Int.toNat (w64 ((w64 (v3 + (4 : Int))) + v5)))).drop (Int.toNat (w64 (v3 + (4 : Int)))))]).length) (appF v2.length (fun i => (cSl 1 (cInt .u8)) (v2.getD i default)) (fun i => (cSl 1 (cInt .u8)) (([([] : List Int) ++ ((v1.take (Int.toNat (w64 ((w64 (v3 + (4 : Int))) + v5)))).drop (Int.toNat (w64 (v3 + (4 : Int)))))]).getD i default)))))], []⟩ ?_ (Nat.zero_le _) ⟨hg, (fun _ _ => rfl), (fun _ _ => rfl)⟩ ?_
        · kernel_rfl
        refine AOps.extL 51 (cSl 1 (cInt .u8)) (v2 ++ ([([] : List Int) ++ ((v1.take (Int.toNat (w64 ((w64 (v3 + (4 : Int))) + v5)))).drop (Int.toNat (w64 (v3 + (4 : Int)))))])) rfl List.length_append.symm (app_at (cSl 1 (cInt .u8)) v2 ([([] : List Int) ++ ((v1.take (Int.toNat (w64 ((w64 (v3 + (4 : Int))) + v5)))).drop (Int.toNat (w64 (v3 + (4 : Int)))))])) ?_
        refine AOps.go [13] [] [] [0, 4, 5, 6] 0 ⟨[(0, .tv (fzL 1 (cInt .u8) v1)), (4, .tv (ownL 1 22 (cSl 1 (cInt .u8)) (v2 ++ ([([] : List Int) ++ ((v1.take (Int.toNat (w64 ((w64 (v3 + (4 : Int))) + v5)))).drop (Int.toNat (w64 (v3 + (4 : Int)))))])))), (5, .tv (.int .i64 v3)), (6, .tv (.int .i64 v5))], []⟩ ?_ (Nat.zero_le _) trivial ?_
        · kernel_rfl
        refine AOps.nil ?_
        refine AWp.start [0, 1, 2, 3, 4] [] [] [0, 4, 5] 0 ⟨[(0, .tv (fzL 1 (cInt .u8) v1)), (4, .tv (ownL 1 22 (cSl 1 (cInt .u8)) (v2 ++ ([([] : List Int) ++ ((v1.take (Int.toNat (w64 ((w64 (v3 + (4 : Int))) + v5)))).drop (Int.toNat (w64 (v3 + (4 : Int)))))])))), (5, .tv (.int .i64 (w64 (v3 + (w64 ((8 : Int) + v5))))))], []⟩ rfl ?_ (Nat.zero_le _) trivial ?_
        · kernel_rfl
        refine AOps.nil ?_
        cases h
        exact Or.inl ⟨_, rfl, rfl, rfl⟩
    · replace h := of_false h hb
      refine AWp.keepTo [4] 0 ⟨[(4, .tv (ownL 1 22 (cSl 1 (cInt .u8)) v2))], []⟩ ?_ (Nat.zero_le _) ?_
      · kernel_rfl
      refine AWp.exit ?_
      cases h
      exact Or.inr ⟨_, rfl, by simp, rfl, rfl⟩
  · intro e σ hp
    rcases y with v10 | v4
    · obtain ⟨rfl, rfl⟩ := hp
      cases h
      exact ⟨.inr rfl, rfl⟩
    · obtain ⟨rfl, rfl⟩ := hp
      refine AWp.seq ?_
      refine AWp.freezeL 4 (cSl 1 (cInt .u8)) v4 rfl (fun _ => rfl) ?_
      refine AWp.start [0, 1, 2] [] [] [2, 3] 0 ⟨[(2, .tv (fzL 1 (cSl 1 (cInt .u8)) v4)), (3, .tv (.int .i64 (0 : Int)))], []⟩ rfl ?_ (Nat.zero_le _) trivial ?_
      · kernel_rfl
      refine AOps.nil ?_
      refine AWp.ret ?_
      cases h
      exact ⟨.inr rfl, rfl⟩

noncomputable def f12_b1 (v1 : List (List Int)) (v2 : List (List Int)) (v3 : Int) : Option (Int ⊕ Out Bool Unit) :=
  cond (decide (v3 < (v1.length : Int))) (if (0 : Int) ≤ v3 ∧ v3 < (v1.length : Int) then if (0 : Int) ≤ v3 ∧ v3 < (v2.length : Int) then cond (!(((v1.getD v3.toNat default).map (fun n => UInt8.ofNat n.toNat)) == ((v2.getD v3.toNat default).map (fun n => UInt8.ofNat n.toNat)))) (some (.inr (.ret false))) (some (.inl (w64 (v3 + (1 : Int))))) else none else none) (some (.inr (.go ())))

noncomputable def f12 (v1 : List (List Int)) (v2 : List (List Int)) : Option Bool :=
  cond ((v1.length : Int) != (v2.length : Int)) (some false) ((iter (fun s => f12_b1 v1 v2 s) (0 : Int)).bind fun y => match y with | .ret v4 => some v4 | .go _ => some true)

theorem f12_ok (v1 : List (List Int)) (v2 : List (List Int)) {r : Bool} (h : f12 v1 v2 = some r) : ACall Try.prog 12 [.tv (fzL 1 (cSl 1 (cInt .u8)) v1), .tv (fzL 1 (cSl 1 (cInt .u8)) v2)] [] (.tv (.bool r)) [] := by
  refine ACall.of1 (FF 28 0) Try.func12 rfl Try.ntmps12 Try.results12 (Nat.le_of_ble_eq_true rfl) rfl rfl ?_
  refine AWp.seq ?_
  refine AWp.start [0] [] [] [0, 1] 0 ⟨[(0, .tv (fzL 1 (cSl 1 (cInt .u8)) v1)), (1, .tv (fzL 1 (cSl 1 (cInt .u8)) v2))], []⟩ rfl ?_ (Nat.zero_le _) trivial ?_
  · kernel_rfl
  refine AOps.nil ?_
  refine AWp.seq ?_
  refine AWp.seq ?_
  refine AWp.start [0, 1, 2, 3, 4] [] [] [0, 1, 10] 0 ⟨[(0, .tv (fzL 1 (cSl 1 (cInt .u8)) v1)), (1, .tv (fzL 1 (cSl 1 (cInt .u8)) v2)), (10, .tv (.bool ((v1.length : Int) != (v2.length : Int))))], []⟩ rfl ?_ (Nat.zero_le _) trivial ?_
  · kernel_rfl
  refine AOps.nil ?_
  refine AWp.cond rfl (fun hb => ?_) fun hb => ?_
  · replace h := of_true h hb
    refine AWp.keepTo [] 0 ⟨[], []⟩ ?_ (Nat.zero_le _) ?_
    · kernel_rfl
    refine AWp.seq ?_
    refine AWp.start [0] [] [] [4] 0 ⟨[(4, .tv (.bool false))], []⟩ rfl ?_ (Nat.zero_le _) trivial ?_
    · kernel_rfl
    refine AOps.nil ?_
    refine AWp.ret ?_
    cases h
    exact ⟨.inr rfl, rfl⟩
  · replace h := of_false h hb
    refine AWp.keepTo [0, 1] 0 ⟨[(0, .tv (fzL 1 (cSl 1 (cInt .u8)) v1)), (1, .tv (fzL 1 (cSl 1 (cInt .u8)) v2))], []⟩ ?_ (Nat.zero_le _) ?_
    · kernel_rfl
    refine AWp.skip ?_
    refine AWp.seq ?_
    refine AWp.seq ?_
    refine AWp.start [0] [] [] [0, 1, 5] 0 ⟨[(0, .tv (fzL 1 (cSl 1 (cInt .u8)) v1)), (1, .tv (fzL 1 (cSl 1 (cInt .u8)) v2)), (5, .tv (.int .i64 (0 : Int)))], []⟩ rfl ?_ (Nat.zero_le _) trivial ?_
    · kernel_rfl
    refine AOps.nil ?_
    refine AWp.block ?_
    obtain ⟨y, hy, h⟩ := of_bind h
    refine AWp.mono (AWp.loop (S := Int) (Y := Out Bool Unit) (fun s => ⟨[(0, .tv (fzL 1 (cSl 1 (cInt .u8)) v1)), (1, .tv (fzL 1 (cSl 1 (cInt .u8)) v2)), (5, .tv (.int .i64 s))], []⟩) (fun s => f12_b1 v1 v2 s) (fun y e σ => match y with | .ret r => e = .ret ∧ σ = ⟨[(4, .tv (.bool r))], []⟩ | .go v => e = .exit 0 ∧ σ = ⟨[], []⟩) ?_ hy) ?_
    · rintro v3 o h
      refine AWp.seq ?_
      refine AWp.seq ?_
      refine AWp.start [0, 1, 2, 3] [] [] [0, 1, 5, 14] 0 ⟨[(0, .tv (fzL 1 (cSl 1 (cInt .u8)) v1)), (1, .tv (fzL 1 (cSl 1 (cInt .u8)) v2)), (5, .tv (.int .i64 v3)), (14, .tv (.bool (decide (v3 < (v1.length : Int)))))], []⟩ rfl ?_ (Nat.zero_le _) trivial ?_
      · kernel_rfl
      refine AOps.nil ?_
      refine AWp.cond rfl (fun hb => ?_) fun hb => ?_
      · replace h := of_true h hb
        refine AWp.keepTo [0, 1, 5] 0 ⟨[(0, .tv (fzL 1 (cSl 1 (cInt .u8)) v1)), (1, .tv (fzL 1 (cSl 1 (cInt .u8)) v2)), (5, .tv (.int .i64 v3))], []⟩ ?_ (Nat.zero_le _) ?_
        · kernel_rfl
        refine AWp.skip ?_
        refine AWp.seq ?_
        refine AWp.block ?_
        refine AWp.seq ?_
        refine AWp.draw FFm _ (n := 11) rfl (ls := #[false, false, false, false, false, false, false, false, false, false, false]) rfl ?_ (fun _ h => h)
        obtain ⟨hg, h⟩ := of_guard h
        refine AAny.go (by kernel_rfl) [0, 1, 2, 3] (fuel' := 7) rfl [(0 : Int) ≤ v3, v3 < (v1.length : Int)] #[true, true, true, true, false, false, false, false, false, false, false] [0, 1, 5, 20] 0 ⟨[(0, .tv (fzL 1 (cSl 1 (cInt .u8)) v1)), (1, .tv (fzL 1 (cSl 1 (cInt .u8)) v2)), (5, .tv (.int .i64 v3)), (20, .tv (fzL 1 (cInt .u8) (v1.getD v3.toNat default)))], []⟩ ?_ (Nat.zero_le _) ⟨hg.1, hg.2⟩ ?_
        · kernel_rfl
        refine AAny.takeStr (F := (FF 28 0)) (i := 4) (fuel' := 6) (by kernel_rfl) rfl (by kernel_rfl) (by kernel_rfl) #[true, true, true, true, true, false, false, false, false, false, false] rfl _ rfl rfl rfl _ rfl rfl rfl rfl rfl (n := (v1.getD v3.toNat default).length) (f := (fun i => (cInt .u8) ((v1.getD v3.toNat default).getD i default))) rfl (v1.getD v3.toNat default) rfl (fun _ _ => rfl) ?_
        refine AAny.keepTo [0, 1, 5, 21] 0 ⟨[(0, .tv (fzL 1 (cSl 1 (cInt .u8)) v1)), (1, .tv (fzL 1 (cSl 1 (cInt .u8)) v2)), (5, .tv (.int .i64 v3)), (21, .tv (.str ((v1.getD v3.toNat default).map (fun n => UInt8.ofNat n.toNat))))], []⟩ #[true, true, true, true, true, false, false, false, false, false, false] ?_ rfl (Nat.zero_le _) ?_
        · kernel_rfl
        obtain ⟨hg, h⟩ := of_guard h
        refine AAny.go (by kernel_rfl) [5, 6, 7, 8] (fuel' := 2) rfl [(0 : Int) ≤ v3, v3 < (v2.length : Int)] #[true, true, true, true, true, true, true, true, true, false, false] [0, 1, 5, 21, 25] 0 ⟨[(0, .tv (fzL 1 (cSl 1 (cInt .u8)) v1)), (1, .tv (fzL 1 (cSl 1 (cInt .u8)) v2)), (5, .tv (.int .i64 v3)), (21, .tv (.str ((v1.getD v3.toNat default).map (fun n => UInt8.ofNat n.toNat)))), (25, .tv (fzL 1 (cInt .u8) (v2.getD v3.toNat default)))], []⟩ ?_ (Nat.zero_le _) ⟨hg.1, hg.2⟩ ?_
        · kernel_rfl
        refine AAny.takeStr (F := (FF 28 0)) (i := 9) (fuel' := 1) (by kernel_rfl) rfl (by kernel_rfl) (by kernel_rfl) #[true, true, true, true, true, true, true, true, true, true, false] rfl _ rfl rfl rfl _ rfl rfl rfl rfl rfl (n := (v2.getD v3.toNat default).length) (f := (fun i => (cInt .u8) ((v2.getD v3.toNat default).getD i default))) rfl (v2.getD v3.toNat default) rfl (fun _ _ => rfl) ?_
        refine AAny.keepTo [0, 1, 5, 21, 26] 0 ⟨[(0, .tv (fzL 1 (cSl 1 (cInt .u8)) v1)), (1, .tv (fzL 1 (cSl 1 (cInt .u8)) v2)), (5, .tv (.int .i64 v3)), (21, .tv (.str ((v1.getD v3.toNat default).map (fun n => UInt8.ofNat n.toNat)))), (26, .tv (.str ((v2.getD v3.toNat default).map (fun n => UInt8.ofNat n.toNat))))], []⟩ #[true, true, true, true, true, true, true, true, true, true, false] ?_ rfl (Nat.zero_le _) ?_
        · kernel_rfl
        refine AAny.go (by kernel_rfl) [10] (fuel' := 0) rfl [] #[true, true, true, true, true, true, true, true, true, true, true] [0, 1, 5, 27] 0 ⟨[(0, .tv (fzL 1 (cSl 1 (cInt .u8)) v1)), (1, .tv (fzL 1 (cSl 1 (cInt .u8)) v2)), (5, .tv (.int .i64 v3)), (27, .tv (.bool (!(((v1.getD v3.toNat default).map (fun n => UInt8.ofNat n.toNat)) == ((v2.getD v3.toNat default).map (fun n => UInt8.ofNat n.toNat))))))], []⟩ ?_ (Nat.zero_le _) trivial ?_
        · kernel_rfl
        refine AAny.keepTo [0, 1, 5, 27] 0 ⟨[(0, .tv (fzL 1 (cSl 1 (cInt .u8)) v1)), (1, .tv (fzL 1 (cSl 1 (cInt .u8)) v2)), (5, .tv (.int .i64 v3)), (27, .tv (.bool (!(((v1.getD v3.toNat default).map (fun n => UInt8.ofNat n.toNat)) == ((v2.getD v3.toNat default).map (fun n => UInt8.ofNat n.toNat))))))], []⟩ _ ?_ rfl (Nat.zero_le _) (AAny.done (by kernel_rfl) ?_)
        · kernel_rfl
        refine AWp.cond rfl (fun hb => ?_) fun hb => ?_
        · replace h := of_true h hb
          refine AWp.keepTo [] 0 ⟨[], []⟩ ?_ (Nat.zero_le _) ?_
          · kernel_rfl
          refine AWp.seq ?_
          refine AWp.start [0] [] [] [4] 0 ⟨[(4, .tv (.bool false))], []⟩ rfl ?_ (Nat.zero_le _) trivial ?_
          · kernel_rfl
          refine AOps.nil ?_
          refine AWp.ret ?_
          cases h
          exact Or.inr ⟨_, rfl, by simp, rfl, rfl⟩
        · replace h := of_false h hb
          refine AWp.keepTo [0, 1, 5] 0 ⟨[(0, .tv (fzL 1 (cSl 1 (cInt .u8)) v1)), (1, .tv (fzL 1 (cSl 1 (cInt .u8)) v2)), (5, .tv (.int .i64 v3))], []⟩ ?_ (Nat.zero_le _) ?_
          · kernel_rfl
          refine AWp.skip ?_
          refine AWp.start [0, 1, 2] [] [] [0, 1, 5] 0 ⟨[(0, .tv (fzL 1 (cSl 1 (cInt .u8)) v1)), (1, .tv (fzL 1 (cSl 1 (cInt .u8)) v2)), (5, .tv (.int .i64 (w64 (v3 + (1 : Int)))))], []⟩ rfl ?_ (Nat.zero_le _) trivial ?_
          · kernel_rfl
          refine AOps.nil ?_
          cases h
          exact Or.inl ⟨_, rfl, rfl, rfl⟩
      · replace h := of_false h hb
        refine AWp.keepTo [] 0 ⟨[], []⟩ ?_ (Nat.zero_le _) ?_
        · kernel_rfl
        refine AWp.exit ?_
        cases h
        exact Or.inr ⟨_, rfl, by simp, rfl, rfl⟩
    · intro e σ hp
      rcases y with v4 | _
      · obtain ⟨rfl, rfl⟩ := hp
        cases h
        exact ⟨.inr rfl, rfl⟩
      · obtain ⟨rfl, rfl⟩ := hp
        refine AWp.seq ?_
        refine AWp.start [0] [] [] [4] 0 ⟨[(4, .tv (.bool true))], []⟩ rfl ?_ (Nat.zero_le _) trivial ?_
        · kernel_rfl
        refine AOps.nil ?_
        refine AWp.ret ?_
        cases h
        exact ⟨.inr rfl, rfl⟩

noncomputable def f13_b1 (v1 : List (List Int)) (v2 : List Int) (v3 : Int) : Option (((List Int) × Int) ⊕ Out ((List Int) × Int) (List Int)) :=
  cond (decide (v3 < (v1.length : Int))) (if (0 : Int) ≤ v3 ∧ v3 < (v1.length : Int) then cond (decide (((v1.getD v3.toNat default).length : Int) > (1000 : Int))) (some (.inr (.ret (([] : List Int), (2 : Int))))) ((f39 (v1.getD v3.toNat default)).bind fun v5 => if (v2.length + v5.length) * 1 ≤ 140737488355328 then some (.inl (v2 ++ v5, w64 (v3 + (1 : Int)))) else none) else none) (some (.inr (.go v2)))

noncomputable def f13 (v1 : List (List Int)) : Option ((List Int) × Int) :=
  (iter (fun s => f13_b1 v1 s.1 s.2) ([], (0 : Int))).bind fun y => match y with | .ret v6 => some (v6.1, v6.2) | .go v4 => some (v4, (0 : Int))

theorem f13_ok (v1 : List (List Int)) {r : (List Int) × Int} (h : f13 v1 = some r) : ACall Try.prog 13 [.tv (fzL 1 (cSl 1 (cInt .u8)) v1)] [] (.tup [.tv (fzL 1 (cInt .u8) r.1), .tv (.int .i64 r.2)]) [] := by
  refine ACall.ofN (FF 22 0) (rs := [2, 3]) (env := [(2, .tv (fzL 1 (cInt .u8) r.1)), (3, .tv (.int .i64 r.2))]) Try.func13 rfl Try.ntmps13 Try.results13 (by decide) (by decide) rfl (Nat.le_of_ble_eq_true rfl) rfl (get_ofN _ _ _ rfl) (ok_ofN _ rfl) ?_
  refine AWp.seq ?_
  refine AWp.start [0, 1] [] [] [0] 0 ⟨[(0, .tv (fzL 1 (cSl 1 (cInt .u8)) v1))], []⟩ rfl ?_ (Nat.zero_le _) trivial ?_
  · kernel_rfl
  refine AOps.nil ?_
  refine AWp.seq ?_
  refine AWp.start [0] [] [] [0, 4] 0 ⟨[(0, .tv (fzL 1 (cSl 1 (cInt .u8)) v1)), (4, .tv (.sc (.slice none 0 0)))], []⟩ rfl ?_ (Nat.zero_le _) trivial ?_
  · kernel_rfl
  refine AOps.nil ?_
  refine AWp.seq ?_
  refine AWp.seq ?_
  refine AWp.start [0, 1, 2] [] [] [4, 7, 8, 9] 0 ⟨[(4, .tv (.sc (.slice none 0 0))), (7, .tv (fzL 1 (cSl 1 (cInt .u8)) v1)), (8, .tv (.int .i64 (v1.length : Int))), (9, .tv (.int .i64 (0 : Int)))], []⟩ rfl ?_ (Nat.zero_le _) trivial ?_
  · kernel_rfl
  refine AOps.nil ?_
  refine AWp.block ?_
  refine AWp.nilOwn 4 1 5 (fun i => (cInt .u8) (([] : List Int).getD i default)) rfl ?_
  refine AWp.keepTo [4, 7, 8, 9] 0 ⟨[(4, .tv (ownL 1 5 (cInt .u8) ([] : List Int))), (7, .tv (fzL 1 (cSl 1 (cInt .u8)) v1)), (8, .tv (.int .i64 (v1.length : Int))), (9, .tv (.int .i64 (0 : Int)))], []⟩ ?_ (Nat.zero_le _) ?_
  · kernel_rfl
  obtain ⟨y, hy, h⟩ := of_bind h
  refine AWp.mono (AWp.loop (S := (List Int) × Int) (Y := Out ((List Int) × Int) (List Int)) (fun s => ⟨[(4, .tv (ownL 1 5 (cInt .u8) s.1)), (7, .tv (fzL 1 (cSl 1 (cInt .u8)) v1)), (8, .tv (.int .i64 (v1.length : Int))), (9, .tv (.int .i64 s.2))], []⟩) (fun s => f13_b1 v1 s.1 s.2) (fun y e σ => match y with | .ret r => e = .ret ∧ σ = ⟨[(2, .tv (fzL 1 (cInt .u8) r.1)), (3, .tv (.int .i64 r.2))], []⟩ | .go v => e = .exit 0 ∧ σ = ⟨[(4, .tv (ownL 1 5 (cInt .u8) v))], []⟩) ?_ hy) ?_
  · rintro ⟨v2, v3⟩ o h
    refine AWp.seq ?_
    refine AWp.start [0] [] [] [4, 7, 8, 9, 10] 0 ⟨[(4, .tv (ownL 1 5 (cInt .u8) v2)), (7, .tv (fzL 1 (cSl 1 (cInt .u8)) v1)), (8, .tv (.int .i64 (v1.length : Int))), (9, .tv (.int .i64 v3)), (10, .tv (.bool (decide (v3 < (v1.length : Int)))))], []⟩ rfl ?_ (Nat.zero_le _) trivial ?_
    · kernel_rfl
    refine AOps.nil ?_
    refine AWp.seq ?_
    refine AWp.cond rfl (fun hb => ?_) fun hb => ?_
    · replace h := of_true h hb
      refine AWp.keepTo [4, 7, 8, 9] 0 ⟨[(4, .tv (ownL 1 5 (cInt .u8) v2)), (7, .tv (fzL 1 (cSl 1 (cInt .u8)) v1)), (8, .tv (.int .i64 (v1.length : Int))), (9, .tv (.int .i64 v3))], []⟩ ?_ (Nat.zero_le _) ?_
      · kernel_rfl
      refine AWp.skip ?_
      refine AWp.seq ?_
      refine AWp.block ?_
      refine AWp.seq ?_
      obtain ⟨hg, h⟩ := of_guard h
      refine AWp.start [0, 1, 2] [] [(0 : Int) ≤ v3, v3 < (v1.length : Int)] [4, 6, 7, 8, 9] 0 ⟨[(4, .tv (ownL 1 5 (cInt .u8) v2)), (6, .tv (fzL 1 (cInt .u8) (v1.getD v3.toNat default))), (7, .tv (fzL 1 (cSl 1 (cInt .u8)) v1)), (8, .tv (.int .i64 (v1.length : Int))), (9, .tv (.int .i64 v3))], []⟩ rfl ?_ (Nat.zero_le _) ⟨hg.1, hg.2⟩ ?_
      · kernel_rfl
      refine AOps.nil ?_
      refine AWp.seq ?_
      refine AWp.seq ?_
      refine AWp.start [0, 1, 2] [] [] [4, 6, 7, 8, 9, 15] 0 ⟨[(4, .tv (ownL 1 5 (cInt .u8) v2)), (6, .tv (fzL 1 (cInt .u8) (v1.getD v3.toNat default))), (7, .tv (fzL 1 (cSl 1 (cInt .u8)) v1)), (8, .tv (.int .i64 (v1.length : Int))), (9, .tv (.int .i64 v3)), (15, .tv (.bool (decide (((v1.getD v3.toNat default).length : Int) > (1000 : Int)))))], []⟩ rfl ?_ (Nat.zero_le _) trivial ?_
      · kernel_rfl
      refine AOps.nil ?_
      refine AWp.cond rfl (fun hb => ?_) fun hb => ?_
      · replace h := of_true h hb
        refine AWp.keepTo [] 0 ⟨[], []⟩ ?_ (Nat.zero_le _) ?_
        · kernel_rfl
        refine AWp.seq ?_
        refine AWp.start [0, 1] [] [] [2, 3] 0 ⟨[(2, .tv (.sc (.slice none 0 0))), (3, .tv (.int .i64 (2 : Int)))], []⟩ rfl ?_ (Nat.zero_le _) trivial ?_
        · kernel_rfl
        refine AOps.nil ?_
        refine AWp.nilFz 2 1 (fun i => (cInt .u8) (([] : List Int).getD i default)) rfl ?_
        refine AWp.keepTo [2, 3] 0 ⟨[(2, .tv (fzL 1 (cInt .u8) ([] : List Int))), (3, .tv (.int .i64 (2 : Int)))], []⟩ ?_ (Nat.zero_le _) ?_
        · kernel_rfl
        refine AWp.ret ?_
        cases h
        exact Or.inr ⟨_, rfl, by simp, rfl, rfl⟩
      · replace h := of_false h hb
        refine AWp.keepTo [4, 6, 7, 8, 9] 0 ⟨[(4, .tv (ownL 1 5 (cInt .u8) v2)), (6, .tv (fzL 1 (cInt .u8) (v1.getD v3.toNat default))), (7, .tv (fzL 1 (cSl 1 (cInt .u8)) v1)), (8, .tv (.int .i64 (v1.length : Int))), (9, .tv (.int .i64 v3))], []⟩ ?_ (Nat.zero_le _) ?_
        · kernel_rfl
        refine AWp.skip ?_
        refine AWp.start [0, 1] [2, 3, 4] [] [4, 7, 8, 9, 16, 17] 0 ⟨[(4, .tv (ownL 1 5 (cInt .u8) v2)), (7, .tv (fzL 1 (cSl 1 (cInt .u8)) v1)), (8, .tv (.int .i64 (v1.length : Int))), (9, .tv (.int .i64 v3)), (16, .al (.slot 4 0, [])), (17, .tv (fzL 1 (cInt .u8) (v1.getD v3.toNat default)))], []⟩ rfl ?_ (Nat.zero_le _) trivial ?_
        · kernel_rfl
        obtain ⟨v5, hv5, h⟩ := of_bind h
        refine AOps.cons (AOne.callP (F := (FF 22 0)) _ rfl rfl rfl _ rfl rfl _ _ rfl Try.call39 [.tv (fzL 1 (cInt .u8) (v1.getD v3.toNat default))] rfl rfl (f39_ok (v1.getD v3.toNat default) hv5) rfl) ?_
        obtain ⟨hg, h⟩ := of_guard h
        refine AOps.go [3] [4] [(v2.length + v5.length) * 1 ≤ 140737488355328, PlainTo v2.length (fun i => (cInt .u8) (v2.getD i default)), PlainTo v5.length (fun i => (cInt .u8) (v5.getD i default))] [7, 8, 9, 19] 0 ⟨[(7, .tv (fzL 1 (cSl 1 (cInt .u8)) v1)), (8, .tv (.int .i64 (v1.length : Int))), (9, .tv (.int .i64 v3)), (19, .tv (.own 1 5 (v2.length + v5.length) (appF v2.length (fun i => (cInt .u8) (v2.getD i default)) (fun i => (cInt .u8) (v5.getD i default)))))], []⟩ ?_ (Nat.zero_le _) ⟨hg, (fun _ _ => rfl), (fun _ _ => rfl)⟩ ?_
        · kernel_rfl
        refine AOps.extL 19 (cInt .u8) (v2 ++ v5) rfl List.length_append.symm (app_at (cInt .u8) v2 v5) ?_
        refine AOps.go [4] [] [] [4, 7, 8, 9] 0 ⟨[(4, .tv (ownL 1 5 (cInt .u8) (v2 ++ v5))), (7, .tv (fzL 1 (cSl 1 (cInt .u8)) v1)), (8, .tv (.int .i64 (v1.length : Int))), (9, .tv (.int .i64 v3))], []⟩ ?_ (Nat.zero_le _) trivial ?_
        · kernel_rfl
        refine AOps.nil ?_
        refine AWp.start [0, 1] [] [] [4, 7, 8, 9] 0 ⟨[(4, .tv (ownL 1 5 (cInt .u8) (v2 ++ v5))), (7, .tv (fzL 1 (cSl 1 (cInt .u8)) v1)), (8, .tv (.int .i64 (v1.length : Int))), (9, .tv (.int .i64 (w64 (v3 + (1 : Int)))))], []⟩ rfl ?_ (Nat.zero_le _) trivial ?_
        · kernel_rfl
        refine AOps.nil ?_
        cases h
        exact Or.inl ⟨_, rfl, rfl, rfl⟩
    · replace h := of_false h hb
      refine AWp.keepTo [4] 0 ⟨[(4, .tv (ownL 1 5 (cInt .u8) v2))], []⟩ ?_ (Nat.zero_le _) ?_
      · kernel_rfl
      refine AWp.exit ?_
      cases h
      exact Or.inr ⟨_, rfl, by simp, rfl, rfl⟩
  · intro e σ hp
    rcases y with v6 | v4
    · obtain ⟨rfl, rfl⟩ := hp
      cases h
      exact ⟨.inr rfl, rfl⟩
    · obtain ⟨rfl, rfl⟩ := hp
      refine AWp.seq ?_
      refine AWp.freezeL 4 (cInt .u8) v4 rfl (fun _ => rfl) ?_
      refine AWp.start [0, 1, 2] [] [] [2, 3] 0 ⟨[(2, .tv (fzL 1 (cInt .u8) v4)), (3, .tv (.int .i64 (0 : Int)))], []⟩ rfl ?_ (Nat.zero_le _) trivial ?_
      · kernel_rfl
      refine AOps.nil ?_
      refine AWp.ret ?_
      cases h
      exact ⟨.inr rfl, rfl⟩

noncomputable def f40 (v1 : Int) : Option (List Int) :=
  some [IntKind.wrap .u8 (w64 (Int.tdiv v1 (16777216 : Int))), IntKind.wrap .u8 (Int.tmod (w64 (Int.tdiv v1 (65536 : Int))) (256 : Int)), IntKind.wrap .u8 (Int.tmod (w64 (Int.tdiv v1 (256 : Int))) (256 : Int)), IntKind.wrap .u8 (Int.tmod v1 (256 : Int))]

theorem f40_ok (v1 : Int) {r : (List Int)} (h : f40 v1 = some r) : ACall Try.prog 40 [.tv (.int .i64 v1)] [] (.tv (ownL 1 5 (cInt .u8) r)) [] := by
  refine ACall.of1 (FF 18 0) Try.func40 rfl Try.ntmps40 Try.results40 (Nat.le_of_ble_eq_true rfl) rfl rfl ?_
  refine AWp.seq ?_
  refine AWp.start [0] [] [] [0] 0 ⟨[(0, .tv (.int .i64 v1))], []⟩ rfl ?_ (Nat.zero_le _) trivial ?_
  · kernel_rfl
  refine AOps.nil ?_
  refine AWp.seq ?_
  refine AWp.start [0, 1, 2, 3, 4, 5, 6, 7, 8, 9, 10, 11, 12, 13, 14] [15] [(16777216 : Int) ≠ (0 : Int), (65536 : Int) ≠ (0 : Int), (256 : Int) ≠ (0 : Int), (256 : Int) ≠ (0 : Int), (256 : Int) ≠ (0 : Int), (256 : Int) ≠ (0 : Int)] [17] 0 ⟨[(17, .tv (.own 1 5 4 (newRowF [.int .u8 (IntKind.wrap .u8 (w64 (Int.tdiv v1 (16777216 : Int)))), .int .u8 (IntKind.wrap .u8 (Int.tmod (w64 (Int.tdiv v1 (65536 : Int))) (256 : Int))), .int .u8 (IntKind.wrap .u8 (Int.tmod (w64 (Int.tdiv v1 (256 : Int))) (256 : Int))), .int .u8 (IntKind.wrap .u8 (Int.tmod v1 (256 : Int)))] 1)))], []⟩ rfl ?_ (Nat.zero_le _) ⟨(by decide : (16777216 : Int) ≠ (0 : Int)), (by decide : (65536 : Int) ≠ (0 : Int)), (by decide : (256 : Int) ≠ (0 : Int)), (by decide : (256 : Int) ≠ (0 : Int)), (by decide : (256 : Int) ≠ (0 : Int)), (by decide : (256 : Int) ≠ (0 : Int))⟩ ?_
  · kernel_rfl
  refine AOps.extL 17 (cInt .u8) [IntKind.wrap .u8 (w64 (Int.tdiv v1 (16777216 : Int))), IntKind.wrap .u8 (Int.tmod (w64 (Int.tdiv v1 (65536 : Int))) (256 : Int)), IntKind.wrap .u8 (Int.tmod (w64 (Int.tdiv v1 (256 : Int))) (256 : Int)), IntKind.wrap .u8 (Int.tmod v1 (256 : Int))] rfl rfl (row_at (cInt .u8) 1 (fun _ => rfl) [IntKind.wrap .u8 (w64 (Int.tdiv v1 (16777216 : Int))), IntKind.wrap .u8 (Int.tmod (w64 (Int.tdiv v1 (65536 : Int))) (256 : Int)), IntKind.wrap .u8 (Int.tmod (w64 (Int.tdiv v1 (256 : Int))) (256 : Int)), IntKind.wrap .u8 (Int.tmod v1 (256 : Int))] _ rfl) ?_
  refine AOps.go [15] [] [] [2] 0 ⟨[(2, .tv (ownL 1 5 (cInt .u8) [IntKind.wrap .u8 (w64 (Int.tdiv v1 (16777216 : Int))), IntKind.wrap .u8 (Int.tmod (w64 (Int.tdiv v1 (65536 : Int))) (256 : Int)), IntKind.wrap .u8 (Int.tmod (w64 (Int.tdiv v1 (256 : Int))) (256 : Int)), IntKind.wrap .u8 (Int.tmod v1 (256 : Int))]))], []⟩ ?_ (Nat.zero_le _) trivial ?_
  · kernel_rfl
  refine AOps.nil ?_
  refine AWp.ret ?_
  cases h
  exact ⟨.inr rfl, rfl⟩

noncomputable def f14_b1 (v1 : List (List Int)) (v2 : List Int) (v3 : Int) : Option (((List Int) × Int) ⊕ Out ((List Int) × Int) (List Int)) :=
  cond (decide (v3 < (v1.length : Int))) (if (0 : Int) ≤ v3 ∧ v3 < (v1.length : Int) then cond (decide (((v1.getD v3.toNat default).length : Int) > (1000 : Int))) (some (.inr (.ret (([] : List Int), (2 : Int))))) (if (0 : Int) ≤ v3 ∧ v3 < (v1.length : Int) then (f40 ((v1.getD v3.toNat default).length : Int)).bind fun v5 => if (v2.length + v5.length) * 1 ≤ 140737488355328 then if (0 : Int) ≤ v3 ∧ v3 < (v1.length : Int) ∧ ((v2 ++ v5).length + (v1.getD v3.toNat default).length) * 1 ≤ 140737488355328 then if (0 : Int) ≤ v3 ∧ v3 < (v1.length : Int) then (f40 ((v1.getD v3.toNat default).length : Int)).bind fun v6 => if (((v2 ++ v5) ++ (v1.getD v3.toNat default)).length + v6.length) * 1 ≤ 140737488355328 then some (.inl (((v2 ++ v5) ++ (v1.getD v3.toNat default)) ++ v6, w64 (v3 + (1 : Int)))) else none else none else none else none else none) else none) (some (.inr (.go v2)))

noncomputable def f14 (v1 : List (List Int)) : Option ((List Int) × Int) :=
  (iter (fun s => f14_b1 v1 s.1 s.2) ([], (0 : Int))).bind fun y => match y with | .ret v7 => some (v7.1, v7.2) | .go v4 => some (v4, (0 : Int))

theorem f14_ok (v1 : List (List Int)) {r : (List Int) × Int} (h : f14 v1 = some r) : ACall Try.prog 14 [.tv (fzL 1 (cSl 1 (cInt .u8)) v1)] [] (.tup [.tv (fzL 1 (cInt .u8) r.1), .tv (.int .i64 r.2)]) [] := by
  refine ACall.ofN (FF 41 0) (rs := [2, 3]) (env := [(2, .tv (fzL 1 (cInt .u8) r.1)), (3, .tv (.int .i64 r.2))]) Try.func14 rfl Try.ntmps14 Try.results14 (by decide) (by decide) rfl (Nat.le_of_ble_eq_true rfl) rfl (get_ofN _ _ _ rfl) (ok_ofN _ rfl) ?_
  refine AWp.seq ?_
  refine AWp.start [0, 1] [] [] [0] 0 ⟨[(0, .tv (fzL 1 (cSl 1 (cInt .u8)) v1))], []⟩ rfl ?_ (Nat.zero_le _) trivial ?_
  · kernel_rfl
  refine AOps.nil ?_
  refine AWp.seq ?_
  refine AWp.start [0] [] [] [0, 4] 0 ⟨[(0, .tv (fzL 1 (cSl 1 (cInt .u8)) v1)), (4, .tv (.sc (.slice none 0 0)))], []⟩ rfl ?_ (Nat.zero_le _) trivial ?_
  · kernel_rfl
  refine AOps.nil ?_
  refine AWp.seq ?_
  refine AWp.seq ?_
  refine AWp.start [0] [] [] [0, 4, 5] 0 ⟨[(0, .tv (fzL 1 (cSl 1 (cInt .u8)) v1)), (4, .tv (.sc (.slice none 0 0))), (5, .tv (.int .i64 (0 : Int)))], []⟩ rfl ?_ (Nat.zero_le _) trivial ?_
  · kernel_rfl
  refine AOps.nil ?_
  refine AWp.block ?_
  refine AWp.nilOwn 4 1 5 (fun i => (cInt .u8) (([] : List Int).getD i default)) rfl ?_
  refine AWp.keepTo [0, 4, 5] 0 ⟨[(0, .tv (fzL 1 (cSl 1 (cInt .u8)) v1)), (4, .tv (ownL 1 5 (cInt .u8) ([] : List Int))), (5, .tv (.int .i64 (0 : Int)))], []⟩ ?_ (Nat.zero_le _) ?_
  · kernel_rfl
  obtain ⟨y, hy, h⟩ := of_bind h
  refine AWp.mono (AWp.loop (S := (List Int) × Int) (Y := Out ((List Int) × Int) (List Int)) (fun s => ⟨[(0, .tv (fzL 1 (cSl 1 (cInt .u8)) v1)), (4, .tv (ownL 1 5 (cInt .u8) s.1)), (5, .tv (.int .i64 s.2))], []⟩) (fun s => f14_b1 v1 s.1 s.2) (fun y e σ => match y with | .ret r => e = .ret ∧ σ = ⟨[(2, .tv (fzL 1 (cInt .u8) r.1)), (3, .tv (.int .i64 r.2))], []⟩ | .go v => e = .exit 0 ∧ σ = ⟨[(4, .tv (ownL 1 5 (cInt .u8) v))], []⟩) ?_ hy) ?_
  · rintro ⟨v2, v3⟩ o h
    refine AWp.seq ?_
    refine AWp.seq ?_
    refine AWp.start [0, 1, 2, 3] [] [] [0, 4, 5, 9] 0 ⟨[(0, .tv (fzL 1 (cSl 1 (cInt .u8)) v1)), (4, .tv (ownL 1 5 (cInt .u8) v2)), (5, .tv (.int .i64 v3)), (9, .tv (.bool (decide (v3 < (v1.length : Int)))))], []⟩ rfl ?_ (Nat.zero_le _) trivial ?_
    · kernel_rfl
    refine AOps.nil ?_
    refine AWp.cond rfl (fun hb => ?_) fun hb => ?_
    · replace h := of_true h hb
      refine AWp.keepTo [0, 4, 5] 0 ⟨[(0, .tv (fzL 1 (cSl 1 (cInt .u8)) v1)), (4, .tv (ownL 1 5 (cInt .u8) v2)), (5, .tv (.int .i64 v3))], []⟩ ?_ (Nat.zero_le _) ?_
      · kernel_rfl
      refine AWp.skip ?_
      refine AWp.seq ?_
      refine AWp.block ?_
      refine AWp.seq ?_
      refine AWp.seq ?_
      obtain ⟨hg, h⟩ := of_guard h
      refine AWp.start [0, 1, 2, 3, 4, 5] [] [(0 : Int) ≤ v3, v3 < (v1.length : Int)] [0, 4, 5, 17] 0 ⟨[(0, .tv (fzL 1 (cSl 1 (cInt .u8)) v1)), (4, .tv (ownL 1 5 (cInt .u8) v2)), (5, .tv (.int .i64 v3)), (17, .tv (.bool (decide (((v1.getD v3.toNat default).length : Int) > (1000 : Int)))))], []⟩ rfl ?_ (Nat.zero_le _) ⟨hg.1, hg.2⟩ ?_
      · kernel_rfl
      refine AOps.nil ?_
      refine AWp.cond rfl (fun hb => ?_) fun hb => ?_
      · replace h := of_true h hb
        refine AWp.keepTo [] 0 ⟨[], []⟩ ?_ (Nat.zero_le _) ?_
        · kernel_rfl
        refine AWp.seq ?_
        refine AWp.start [0, 1] [] [] [2, 3] 0 ⟨[(2, .tv (.sc (.slice none 0 0))), (3, .tv (.int .i64 (2 : Int)))], []⟩ rfl ?_ (Nat.zero_le _) trivial ?_
        · kernel_rfl
        refine AOps.nil ?_
        refine AWp.nilFz 2 1 (fun i => (cInt .u8) (([] : List Int).getD i default)) rfl ?_
        refine AWp.keepTo [2, 3] 0 ⟨[(2, .tv (fzL 1 (cInt .u8) ([] : List Int))), (3, .tv (.int .i64 (2 : Int)))], []⟩ ?_ (Nat.zero_le _) ?_
        · kernel_rfl
        refine AWp.ret ?_
        cases h
        exact Or.inr ⟨_, rfl, by simp, rfl, rfl⟩
      · replace h := of_false h hb
        refine AWp.keepTo [0, 4, 5] 0 ⟨[(0, .tv (fzL 1 (cSl 1 (cInt .u8)) v1)), (4, .tv (ownL 1 5 (cInt .u8) v2)), (5, .tv (.int .i64 v3))], []⟩ ?_ (Nat.zero_le _) ?_
        · kernel_rfl
        refine AWp.skip ?_
        refine AWp.seq ?_
        obtain ⟨hg, h⟩ := of_guard h
        refine AWp.start [0, 1, 2, 3, 4, 5] [6, 7, 8] [(0 : Int) ≤ v3, v3 < (v1.length : Int)] [0, 4, 5, 18, 23] 0 ⟨[(0, .tv (fzL 1 (cSl 1 (cInt .u8)) v1)), (4, .tv (ownL 1 5 (cInt .u8) v2)), (5, .tv (.int .i64 v3)), (18, .al (.slot 4 0, [])), (23, .tv (.int .i64 ((v1.getD v3.toNat default).length : Int)))], []⟩ rfl ?_ (Nat.zero_le _) ⟨hg.1, hg.2⟩ ?_
        · kernel_rfl
        obtain ⟨v5, hv5, h⟩ := of_bind h
        refine AOps.cons (AOne.callP (F := (FF 41 0)) _ rfl rfl rfl _ rfl rfl _ _ rfl Try.call40 [.tv (.int .i64 ((v1.getD v3.toNat default).length : Int))] rfl rfl (f40_ok ((v1.getD v3.toNat default).length : Int) hv5) rfl) ?_
        obtain ⟨hg, h⟩ := of_guard h
        refine AOps.go [7] [8] [(v2.length + v5.length) * 1 ≤ 140737488355328, PlainTo v2.length (fun i => (cInt .u8) (v2.getD i default)), PlainTo v5.length (fun i => (cInt .u8) (v5.getD i default))] [0, 5, 25] 0 ⟨[(0, .tv (fzL 1 (cSl 1 (cInt .u8)) v1)), (5, .tv (.int .i64 v3)), (25, .tv (.own 1 5 (v2.length + v5.length) (appF v2.length (fun i => (cInt .u8) (v2.getD i default)) (fun i => (cInt .u8) (v5.getD i default)))))], []⟩ ?_ (Nat.zero_le _) ⟨hg, (fun _ _ => rfl), (fun _ _ => rfl)⟩ ?_
        · kernel_rfl
        refine AOps.extL 25 (cInt .u8) (v2 ++ v5) rfl List.length_append.symm (app_at (cInt .u8) v2 v5) ?_
        refine AOps.go [8] [] [] [0, 4, 5] 0 ⟨[(0, .tv (fzL 1 (cSl 1 (cInt .u8)) v1)), (4, .tv (ownL 1 5 (cInt .u8) (v2 ++ v5))), (5, .tv (.int .i64 v3))], []⟩ ?_ (Nat.zero_le _) trivial ?_
        · kernel_rfl
        refine AOps.nil ?_
        refine AWp.seq ?_
        obtain ⟨hg, h⟩ := of_guard h
        refine AWp.start [0, 1, 2, 3, 4, 5] [6] [(0 : Int) ≤ v3, v3 < (v1.length : Int), ((v2 ++ v5).length + (v1.getD v3.toNat default).length) * 1 ≤ 140737488355328, PlainTo ((v2 ++ v5).length) (fun i => (cInt .u8) ((v2 ++ v5).getD i default)), PlainTo ((v1.getD v3.toNat default).length) (fun i => (cInt .u8) ((v1.getD v3.toNat default).getD i default))] [0, 5, 31] 0 ⟨[(0, .tv (fzL 1 (cSl 1 (cInt .u8)) v1)), (5, .tv (.int .i64 v3)), (31, .tv (.own 1 5 ((v2 ++ v5).length + (v1.getD v3.toNat default).length) (appF ((v2 ++ v5).length) (fun i => (cInt .u8) ((v2 ++ v5).getD i default)) (fun i => (cInt .u8) ((v1.getD v3.toNat default).getD i default)))))], []⟩ rfl ?_ (Nat.zero_le _) ⟨hg.1, hg.2.1, hg.2.2, (fun _ _ => rfl), (fun _ _ => rfl)⟩ ?_
        · kernel_rfl
        refine AOps.extL 31 (cInt .u8) ((v2 ++ v5) ++ (v1.getD v3.toNat default)) rfl List.length_append.symm (app_at (cInt .u8) (v2 ++ v5) (v1.getD v3.toNat default)) ?_
        refine AOps.go [6] [] [] [0, 4, 5] 0 ⟨[(0, .tv (fzL 1 (cSl 1 (cInt .u8)) v1)), (4, .tv (ownL 1 5 (cInt .u8) ((v2 ++ v5) ++ (v1.getD v3.toNat default)))), (5, .tv (.int .i64 v3))], []⟩ ?_ (Nat.zero_le _) trivial ?_
        · kernel_rfl
        refine AOps.nil ?_
        obtain ⟨hg, h⟩ := of_guard h
        refine AWp.start [0, 1, 2, 3, 4, 5] [6, 7, 8] [(0 : Int) ≤ v3, v3 < (v1.length : Int)] [0, 4, 5, 32, 37] 0 ⟨[(0, .tv (fzL 1 (cSl 1 (cInt .u8)) v1)), (4, .tv (ownL 1 5 (cInt .u8) ((v2 ++ v5) ++ (v1.getD v3.toNat default)))), (5, .tv (.int .i64 v3)), (32, .al (.slot 4 0, [])), (37, .tv (.int .i64 ((v1.getD v3.toNat default).length : Int)))], []⟩ rfl ?_ (Nat.zero_le _) ⟨hg.1, hg.2⟩ ?_
        · kernel_rfl
        obtain ⟨v6, hv6, h⟩ := of_bind h
        refine AOps.cons (AOne.callP (F := (FF 41 0)) _ rfl rfl rfl _ rfl rfl _ _ rfl Try.call40 [.tv (.int .i64 ((v1.getD v3.toNat default).length : Int))] rfl rfl (f40_ok ((v1.getD v3.toNat default).length : Int) hv6) rfl) ?_
        obtain ⟨hg, h⟩ := of_guard h
        refine AOps.go [7] [8] [(((v2 ++ v5) ++ (v1.getD v3.toNat default)).length + v6.length) * 1 ≤ 140737488355328, PlainTo (((v2 ++ v5) ++ (v1.getD v3.toNat default)).length) (fun i => (cInt .u8) (((v2 ++ v5) ++ (v1.getD v3.toNat default)).getD i default)), PlainTo v6.length (fun i => (cInt .u8) (v6.getD i default))] [0, 5, 39] 0 ⟨[(0, .tv (fzL 1 (cSl 1 (cInt .u8)) v1)), (5, .tv (.int .i64 v3)), (39, .tv (.own 1 5 (((v2 ++ v5) ++ (v1.getD v3.toNat default)).length + v6.length) (appF (((v2 ++ v5) ++ (v1.getD v3.toNat default)).length) (fun i => (cInt .u8) (((v2 ++ v5) ++ (v1.getD v3.toNat default)).getD i default)) (fun i => (cInt .u8) (v6.getD i default)))))], []⟩ ?_ (Nat.zero_le _) ⟨hg, (fun _ _ => rfl), (fun _ _ => rfl)⟩ ?_
        · kernel_rfl
        refine AOps.extL 39 (cInt .u8) (((v2 ++ v5) ++ (v1.getD v3.toNat default)) ++ v6) rfl List.length_append.symm (app_at (cInt .u8) ((v2 ++ v5) ++ (v1.getD v3.toNat default)) v6) ?_
        refine AOps.go [8] [] [] [0, 4, 5] 0 ⟨[(0, .tv (fzL 1 (cSl 1 (cInt .u8)) v1)), (4, .tv (ownL 1 5 (cInt .u8) (((v2 ++ v5) ++ (v1.getD v3.toNat default)) ++ v6))), (5, .tv (.int .i64 v3))], []⟩ ?_ (Nat.zero_le _) trivial ?_
        · kernel_rfl
        refine AOps.nil ?_
        refine AWp.start [0, 1, 2] [] [] [0, 4, 5] 0 ⟨[(0, .tv (fzL 1 (cSl 1 (cInt .u8)) v1)), (4, .tv (ownL 1 5 (cInt .u8) (((v2 ++ v5) ++ (v1.getD v3.toNat default)) ++ v6))), (5, .tv (.int .i64 (w64 (v3 + (1 : Int)))))], []⟩ rfl ?_ (Nat.zero_le _) trivial ?_
        · kernel_rfl
        refine AOps.nil ?_
        cases h
        exact Or.inl ⟨_, rfl, rfl, rfl⟩
    · replace h := of_false h hb
      refine AWp.keepTo [4] 0 ⟨[(4, .tv (ownL 1 5 (cInt .u8) v2))], []⟩ ?_ (Nat.zero_le _) ?_
      · kernel_rfl
      refine AWp.exit ?_
      cases h
      exact Or.inr ⟨_, rfl, by simp, rfl, rfl⟩
  · intro e σ hp
    rcases y with v7 | v4
    · obtain ⟨rfl, rfl⟩ := hp
      cases h
      exact ⟨.inr rfl, rfl⟩
    · obtain ⟨rfl, rfl⟩ := hp
      refine AWp.seq ?_
      refine AWp.freezeL 4 (cInt .u8) v4 rfl (fun _ => rfl) ?_
      refine AWp.start [0, 1, 2] [] [] [2, 3] 0 ⟨[(2, .tv (fzL 1 (cInt .u8) v4)), (3, .tv (.int .i64 (0 : Int)))], []⟩ rfl ?_ (Nat.zero_le _) trivial ?_
      · kernel_rfl
      refine AOps.nil ?_
      refine AWp.ret ?_
      cases h
      exact ⟨.inr rfl, rfl⟩

noncomputable def f3_b1 (v2 : List (List Int)) (v5 : Int) : Option (Int ⊕ Out Bool Unit) :=
  cond (decide (v5 < (v2.length : Int))) (if (0 : Int) ≤ v5 ∧ v5 < (v2.length : Int) then cond (decide (((v2.getD v5.toNat default).length : Int) > (2000 : Int))) ((f9 ).bind fun v6 => some (.inr (.ret v6))) (some (.inl (w64 (v5 + (1 : Int))))) else none) (some (.inr (.go ())))

noncomputable def f3_j2 (v2 : List (List Int)) (v12 : (List Int) × Int) : Option Bool :=
  cond (v12.2 != (0 : Int)) ((f9 ).bind fun v15 => some v15) ((f10 v12.1).bind fun v16 => (cond (v16.2 == (0 : Int)) ((f12 v16.1 v2).bind fun v18 => some v18) (some false)).bind fun v17 => (cond v17 ((f9 ).bind fun v20 => some v20) (some false)).bind fun v19 => some v19)

noncomputable def f3 (v1 : List Int) (v2 : List (List Int)) : Option Bool :=
  (cond (decide ((v1.length : Int) > (30000 : Int))) (some true) (some (decide ((v2.length : Int) > (60 : Int))))).bind fun v3 => cond v3 ((f9 ).bind fun v4 => some v4) ((iter (fun s => f3_b1 v2 s) (0 : Int)).bind fun y => match y with | .ret v7 => some v7 | .go _ => (f10 v1).bind fun v8 => (f11 v1).bind fun v9 => (f12 v8.1 v9.1).bind fun v10 => (cond (!v10) (some true) (some (v8.2 != v9.2))).bind fun v11 => cond v11 (some false) ((f13 v2).bind fun v12 => (f14 v2).bind fun v13 => (cond (!((v12.1.map (fun n => UInt8.ofNat n.toNat)) == (v13.1.map (fun n => UInt8.ofNat n.toNat)))) (some true) (some (v12.2 != v13.2))).bind fun v14 => cond v14 (some false) (cond (v8.2 == (0 : Int)) ((f13 v8.1).bind fun v21 => (cond (v21.2 != (0 : Int)) (some true) (some (!((v21.1.map (fun n => UInt8.ofNat n.toNat)) == (v1.map (fun n => UInt8.ofNat n.toNat)))))).bind fun v22 => cond v22 (some false) (f3_j2 v2 v12 )) (f3_j2 v2 v12 ))))

theorem f3_ok (v1 : List Int) (v2 : List (List Int)) {r : Bool} (h : f3 v1 v2 = some r) : ACall Try.prog 3 [.tv (fzL 1 (cInt .u8) v1), .tv (fzL 1 (cSl 1 (cInt .u8)) v2)] [] (.tv (.bool r)) [] := by
  refine ACall.of1 (FF 113 0) Try.func3 rfl Try.ntmps3 Try.results3 (Nat.le_of_ble_eq_true rfl) rfl rfl ?_
  refine AWp.seq ?_
  refine AWp.start [0] [] [] [0, 1] 0 ⟨[(0, .tv (fzL 1 (cInt .u8) v1)), (1, .tv (fzL 1 (cSl 1 (cInt .u8)) v2))], []⟩ rfl ?_ (Nat.zero_le _) trivial ?_
  · kernel_rfl
  refine AOps.nil ?_
  refine AWp.seq ?_
  refine AWp.seq ?_
  refine AWp.start [0, 1, 2, 3] [4, 5, 6, 7] [] [0, 1, 21] 0 ⟨[(0, .tv (fzL 1 (cInt .u8) v1)), (1, .tv (fzL 1 (cSl 1 (cInt .u8)) v2)), (21, .tv (.bool (decide ((v1.length : Int) > (30000 : Int)))))], []⟩ rfl ?_ (Nat.zero_le _) trivial ?_
  · kernel_rfl
  obtain ⟨v3, hc4, h⟩ := of_bind h
  refine AOps.cut [4, 5, 6, 7] [] (fun σ => σ = ⟨[(0, .tv (fzL 1 (cInt .u8) v1)), (1, .tv (fzL 1 (cSl 1 (cInt .u8)) v2)), (25, .tv (.bool v3))], []⟩) ?_ fun σ' hJ => ?_
  · refine AOps.split (fun b => ⟨[(0, .tv (fzL 1 (cInt .u8) v1)), (1, .tv (fzL 1 (cSl 1 (cInt .u8)) v2)), (21, .tv (.bool b))], []⟩) _ (fun hb => ?_) fun hb => ?_
    · replace hc4 := of_true hc4 hb
      refine AOps.go [4, 5, 6, 7] [] [] [0, 1, 25] 0 ⟨[(0, .tv (fzL 1 (cInt .u8) v1)), (1, .tv (fzL 1 (cSl 1 (cInt .u8)) v2)), (25, .tv (.bool true))], []⟩ ?_ (Nat.zero_le _) trivial ?_
      · kernel_rfl
      cases hc4
      exact AOps.nil rfl
    · replace hc4 := of_false hc4 hb
      refine AOps.go [4, 5, 6, 7] [] [] [0, 1, 25] 0 ⟨[(0, .tv (fzL 1 (cInt .u8) v1)), (1, .tv (fzL 1 (cSl 1 (cInt .u8)) v2)), (25, .tv (.bool (decide ((v2.length : Int) > (60 : Int)))))], []⟩ ?_ (Nat.zero_le _) trivial ?_
      · kernel_rfl
      cases hc4
      exact AOps.nil rfl
  subst hJ
  refine AOps.nil ?_
  refine AWp.cond rfl (fun hb => ?_) fun hb => ?_
  · replace h := of_true h hb
    refine AWp.keepTo [] 0 ⟨[], []⟩ ?_ (Nat.zero_le _) ?_
    · kernel_rfl
    refine AWp.seq ?_
    refine AWp.start [] [0, 1] [] [] 0 ⟨[], []⟩ rfl ?_ (Nat.zero_le _) trivial ?_
    · kernel_rfl
    obtain ⟨v4, hv4, h⟩ := of_bind h
    refine AOps.cons (AOne.callP (F := (FF 113 0)) _ rfl rfl rfl _ rfl rfl _ _ rfl Try.call9 [] rfl rfl (f9_ok  hv4) rfl) ?_
    refine AOps.go [1] [] [] [4] 0 ⟨[(4, .tv (.bool v4))], []⟩ ?_ (Nat.zero_le _) trivial ?_
    · kernel_rfl
    refine AOps.nil ?_
    refine AWp.ret ?_
    cases h
    exact ⟨.inr rfl, rfl⟩
  · replace h := of_false h hb
    refine AWp.keepTo [0, 1] 0 ⟨[(0, .tv (fzL 1 (cInt .u8) v1)), (1, .tv (fzL 1 (cSl 1 (cInt .u8)) v2))], []⟩ ?_ (Nat.zero_le _) ?_
    · kernel_rfl
    refine AWp.skip ?_
    refine AWp.seq ?_
    refine AWp.seq ?_
    refine AWp.start [0] [] [] [0, 1, 5] 0 ⟨[(0, .tv (fzL 1 (cInt .u8) v1)), (1, .tv (fzL 1 (cSl 1 (cInt .u8)) v2)), (5, .tv (.int .i64 (0 : Int)))], []⟩ rfl ?_ (Nat.zero_le _) trivial ?_
    · kernel_rfl
    refine AOps.nil ?_
    refine AWp.block ?_
    obtain ⟨y, hy, h⟩ := of_bind h
    refine AWp.mono (AWp.loop (S := Int) (Y := Out Bool Unit) (fun s => ⟨[(0, .tv (fzL 1 (cInt .u8) v1)), (1, .tv (fzL 1 (cSl 1 (cInt .u8)) v2)), (5, .tv (.int .i64 s))], []⟩) (fun s => f3_b1 v2 s) (fun y e σ => match y with | .ret r => e = .ret ∧ σ = ⟨[(4, .tv (.bool r))], []⟩ | .go v => e = .exit 0 ∧ σ = ⟨[(0, .tv (fzL 1 (cInt .u8) v1)), (1, .tv (fzL 1 (cSl 1 (cInt .u8)) v2))], []⟩) ?_ hy) ?_
    · rintro v5 o h
      refine AWp.seq ?_
      refine AWp.seq ?_
      refine AWp.start [0, 1, 2, 3] [] [] [0, 1, 5, 30] 0 ⟨[(0, .tv (fzL 1 (cInt .u8) v1)), (1, .tv (fzL 1 (cSl 1 (cInt .u8)) v2)), (5, .tv (.int .i64 v5)), (30, .tv (.bool (decide (v5 < (v2.length : Int)))))], []⟩ rfl ?_ (Nat.zero_le _) trivial ?_
      · kernel_rfl
      refine AOps.nil ?_
      refine AWp.cond rfl (fun hb => ?_) fun hb => ?_
      · replace h := of_true h hb
        refine AWp.keepTo [0, 1, 5] 0 ⟨[(0, .tv (fzL 1 (cInt .u8) v1)), (1, .tv (fzL 1 (cSl 1 (cInt .u8)) v2)), (5, .tv (.int .i64 v5))], []⟩ ?_ (Nat.zero_le _) ?_
        · kernel_rfl
        refine AWp.skip ?_
        refine AWp.seq ?_
        refine AWp.block ?_
        refine AWp.seq ?_
        obtain ⟨hg, h⟩ := of_guard h
        refine AWp.start [0, 1, 2, 3, 4, 5] [] [(0 : Int) ≤ v5, v5 < (v2.length : Int)] [0, 1, 5, 38] 0 ⟨[(0, .tv (fzL 1 (cInt .u8) v1)), (1, .tv (fzL 1 (cSl 1 (cInt .u8)) v2)), (5, .tv (.int .i64 v5)), (38, .tv (.bool (decide (((v2.getD v5.toNat default).length : Int) > (2000 : Int)))))], []⟩ rfl ?_ (Nat.zero_le _) ⟨hg.1, hg.2⟩ ?_
        · kernel_rfl
        refine AOps.nil ?_
        refine AWp.cond rfl (fun hb => ?_) fun hb => ?_
        · replace h := of_true h hb
          refine AWp.keepTo [] 0 ⟨[], []⟩ ?_ (Nat.zero_le _) ?_
          · kernel_rfl
          refine AWp.seq ?_
          refine AWp.start [] [0, 1] [] [] 0 ⟨[], []⟩ rfl ?_ (Nat.zero_le _) trivial ?_
          · kernel_rfl
          obtain ⟨v6, hv6, h⟩ := of_bind h
          refine AOps.cons (AOne.callP (F := (FF 113 0)) _ rfl rfl rfl _ rfl rfl _ _ rfl Try.call9 [] rfl rfl (f9_ok  hv6) rfl) ?_
          refine AOps.go [1] [] [] [4] 0 ⟨[(4, .tv (.bool v6))], []⟩ ?_ (Nat.zero_le _) trivial ?_
          · kernel_rfl
          refine AOps.nil ?_
          refine AWp.ret ?_
          cases h
          exact Or.inr ⟨_, rfl, by simp, rfl, rfl⟩
        · replace h := of_false h hb
          refine AWp.keepTo [0, 1, 5] 0 ⟨[(0, .tv (fzL 1 (cInt .u8) v1)), (1, .tv (fzL 1 (cSl 1 (cInt .u8)) v2)), (5, .tv (.int .i64 v5))], []⟩ ?_ (Nat.zero_le _) ?_
          · kernel_rfl
          refine AWp.skip ?_
          refine AWp.start [0, 1, 2] [] [] [0, 1, 5] 0 ⟨[(0, .tv (fzL 1 (cInt .u8) v1)), (1, .tv (fzL 1 (cSl 1 (cInt .u8)) v2)), (5, .tv (.int .i64 (w64 (v5 + (1 : Int)))))], []⟩ rfl ?_ (Nat.zero_le _) trivial ?_
          · kernel_rfl
          refine AOps.nil ?_
          cases h
          exact Or.inl ⟨_, rfl, rfl, rfl⟩
      · replace h := of_false h hb
        refine AWp.keepTo [0, 1] 0 ⟨[(0, .tv (fzL 1 (cInt .u8) v1)), (1, .tv (fzL 1 (cSl 1 (cInt .u8)) v2))], []⟩ ?_ (Nat.zero_le _) ?_
        · kernel_rfl
        refine AWp.exit ?_
        cases h
        exact Or.inr ⟨_, rfl, by simp, rfl, rfl⟩
    · intro e σ hp
      rcases y with v7 | _
      · obtain ⟨rfl, rfl⟩ := hp
        cases h
        exact ⟨.inr rfl, rfl⟩
      · obtain ⟨rfl, rfl⟩ := hp
        refine AWp.seq ?_
        refine AWp.start [0] [1, 2, 3, 4, 5, 6] [] [0, 1, 41] 0 ⟨[(0, .tv (fzL 1 (cInt .u8) v1)), (1, .tv (fzL 1 (cSl 1 (cInt .u8)) v2)), (41, .tv (fzL 1 (cInt .u8) v1))], []⟩ rfl ?_ (Nat.zero_le _) trivial ?_
        · kernel_rfl
        obtain ⟨v8, hv8, h⟩ := of_bind h
        refine AOps.cons (AOne.callP (F := (FF 113 0)) _ rfl rfl rfl _ rfl rfl _ _ rfl Try.call10 [.tv (fzL 1 (cInt .u8) v1)] rfl rfl (f10_ok v1 hv8) rfl) ?_
        refine AOps.go [2, 3, 4, 5, 6] [] [] [0, 1, 6, 7] 0 ⟨[(0, .tv (fzL 1 (cInt .u8) v1)), (1, .tv (fzL 1 (cSl 1 (cInt .u8)) v2)), (6, .tv (fzL 1 (cSl 1 (cInt .u8)) v8.1)), (7, .tv (.int .i64 v8.2))], []⟩ ?_ (Nat.zero_le _) trivial ?_
        · kernel_rfl
        refine AOps.nil ?_
        refine AWp.seq ?_
        refine AWp.start [0] [1, 2, 3, 4, 5, 6] [] [0, 1, 6, 7, 46] 0 ⟨[(0, .tv (fzL 1 (cInt .u8) v1)), (1, .tv (fzL 1 (cSl 1 (cInt .u8)) v2)), (6, .tv (fzL 1 (cSl 1 (cInt .u8)) v8.1)), (7, .tv (.int .i64 v8.2)), (46, .tv (fzL 1 (cInt .u8) v1))], []⟩ rfl ?_ (Nat.zero_le _) trivial ?_
        · kernel_rfl
        obtain ⟨v9, hv9, h⟩ := of_bind h
        refine AOps.cons (AOne.callP (F := (FF 113 0)) _ rfl rfl rfl _ rfl rfl _ _ rfl Try.call11 [.tv (fzL 1 (cInt .u8) v1)] rfl rfl (f11_ok v1 hv9) rfl) ?_
        refine AOps.go [2, 3, 4, 5, 6] [] [] [0, 1, 6, 7, 8, 9] 0 ⟨[(0, .tv (fzL 1 (cInt .u8) v1)), (1, .tv (fzL 1 (cSl 1 (cInt .u8)) v2)), (6, .tv (fzL 1 (cSl 1 (cInt .u8)) v8.1)), (7, .tv (.int .i64 v8.2)), (8, .tv (fzL 1 (cSl 1 (cInt .u8)) v9.1)), (9, .tv (.int .i64 v9.2))], []⟩ ?_ (Nat.zero_le _) trivial ?_
        · kernel_rfl
        refine AOps.nil ?_
        refine AWp.seq ?_
        refine AWp.seq ?_
        refine AWp.start [0, 1] [2, 3, 4, 5, 6, 7, 8] [] [0, 1, 6, 7, 9, 50, 51] 0 ⟨[(0, .tv (fzL 1 (cInt .u8) v1)), (1, .tv (fzL 1 (cSl 1 (cInt .u8)) v2)), (6, .tv (fzL 1 (cSl 1 (cInt .u8)) v8.1)), (7, .tv (.int .i64 v8.2)), (9, .tv (.int .i64 v9.2)), (50, .tv (fzL 1 (cSl 1 (cInt .u8)) v8.1)), (51, .tv (fzL 1 (cSl 1 (cInt .u8)) v9.1))], []⟩ rfl ?_ (Nat.zero_le _) trivial ?_
        · kernel_rfl
        obtain ⟨v10, hv10, h⟩ := of_bind h
        refine AOps.cons (AOne.callP (F := (FF 113 0)) _ rfl rfl rfl _ rfl rfl _ _ rfl Try.call12 [.tv (fzL 1 (cSl 1 (cInt .u8)) v8.1), .tv (fzL 1 (cSl 1 (cInt .u8)) v9.1)] rfl rfl (f12_ok v8.1 v9.1 hv10) rfl) ?_
        refine AOps.go [3, 4] [5, 6, 7, 8] [] [0, 1, 6, 7, 9, 54] 0 ⟨[(0, .tv (fzL 1 (cInt .u8) v1)), (1, .tv (fzL 1 (cSl 1 (cInt .u8)) v2)), (6, .tv (fzL 1 (cSl 1 (cInt .u8)) v8.1)), (7, .tv (.int .i64 v8.2)), (9, .tv (.int .i64 v9.2)), (54, .tv (.bool (!v10)))], []⟩ ?_ (Nat.zero_le _) trivial ?_
        · kernel_rfl
        obtain ⟨v11, hc5, h⟩ := of_bind h
        refine AOps.cut [5, 6, 7, 8] [] (fun σ => σ = ⟨[(0, .tv (fzL 1 (cInt .u8) v1)), (1, .tv (fzL 1 (cSl 1 (cInt .u8)) v2)), (6, .tv (fzL 1 (cSl 1 (cInt .u8)) v8.1)), (7, .tv (.int .i64 v8.2)), (58, .tv (.bool v11))], []⟩) ?_ fun σ' hJ => ?_
        · refine AOps.split (fun b => ⟨[(0, .tv (fzL 1 (cInt .u8) v1)), (1, .tv (fzL 1 (cSl 1 (cInt .u8)) v2)), (6, .tv (fzL 1 (cSl 1 (cInt .u8)) v8.1)), (7, .tv (.int .i64 v8.2)), (9, .tv (.int .i64 v9.2)), (54, .tv (.bool b))], []⟩) _ (fun hb => ?_) fun hb => ?_
          · replace hc5 := of_true hc5 hb
            refine AOps.go [5, 6, 7, 8] [] [] [0, 1, 6, 7, 58] 0 ⟨[(0, .tv (fzL 1 (cInt .u8) v1)), (1, .tv (fzL 1 (cSl 1 (cInt .u8)) v2)), (6, .tv (fzL 1 (cSl 1 (cInt .u8)) v8.1)), (7, .tv (.int .i64 v8.2)), (58, .tv (.bool true))], []⟩ ?_ (Nat.zero_le _) trivial ?_
            · kernel_rfl
            cases hc5
            exact AOps.nil rfl
          · replace hc5 := of_false hc5 hb
            refine AOps.go [5, 6, 7, 8] [] [] [0, 1, 6, 7, 58] 0 ⟨[(0, .tv (fzL 1 (cInt .u8) v1)), (1, .tv (fzL 1 (cSl 1 (cInt .u8)) v2)), (6, .tv (fzL 1 (cSl 1 (cInt .u8)) v8.1)), (7, .tv (.int .i64 v8.2)), (58, .tv (.bool (v8.2 != v9.2)))], []⟩ ?_ (Nat.zero_le _) trivial ?_
            · kernel_rfl
            cases hc5
            exact AOps.nil rfl
        subst hJ
        refine AOps.nil ?_
        refine AWp.cond rfl (fun hb => ?_) fun hb => ?_
        · replace h := of_true h hb
          refine AWp.keepTo [] 0 ⟨[], []⟩ ?_ (Nat.zero_le _) ?_
          · kernel_rfl
          refine AWp.seq ?_
          refine AWp.start [0] [] [] [4] 0 ⟨[(4, .tv (.bool false))], []⟩ rfl ?_ (Nat.zero_le _) trivial ?_
          · kernel_rfl
          refine AOps.nil ?_
          refine AWp.ret ?_
          cases h
          exact ⟨.inr rfl, rfl⟩
        · replace h := of_false h hb
          refine AWp.keepTo [0, 1, 6, 7] 0 ⟨[(0, .tv (fzL 1 (cInt .u8) v1)), (1, .tv (fzL 1 (cSl 1 (cInt .u8)) v2)), (6, .tv (fzL 1 (cSl 1 (cInt .u8)) v8.1)), (7, .tv (.int .i64 v8.2))], []⟩ ?_ (Nat.zero_le _) ?_
          · kernel_rfl
          refine AWp.skip ?_
          refine AWp.seq ?_
          refine AWp.start [0] [1, 2, 3, 4, 5, 6] [] [0, 1, 6, 7, 60] 0 ⟨[(0, .tv (fzL 1 (cInt .u8) v1)), (1, .tv (fzL 1 (cSl 1 (cInt .u8)) v2)), (6, .tv (fzL 1 (cSl 1 (cInt .u8)) v8.1)), (7, .tv (.int .i64 v8.2)), (60, .tv (fzL 1 (cSl 1 (cInt .u8)) v2))], []⟩ rfl ?_ (Nat.zero_le _) trivial ?_
          · kernel_rfl
          obtain ⟨v12, hv12, h⟩ := of_bind h
          refine AOps.cons (AOne.callP (F := (FF 113 0)) _ rfl rfl rfl _ rfl rfl _ _ rfl Try.call13 [.tv (fzL 1 (cSl 1 (cInt .u8)) v2)] rfl rfl (f13_ok v2 hv12) rfl) ?_
          refine AOps.go [2, 3, 4, 5, 6] [] [] [0, 1, 6, 7, 10, 11] 0 ⟨[(0, .tv (fzL 1 (cInt .u8) v1)), (1, .tv (fzL 1 (cSl 1 (cInt .u8)) v2)), (6, .tv (fzL 1 (cSl 1 (cInt .u8)) v8.1)), (7, .tv (.int .i64 v8.2)), (10, .tv (fzL 1 (cInt .u8) v12.1)), (11, .tv (.int .i64 v12.2))], []⟩ ?_ (Nat.zero_le _) trivial ?_
          · kernel_rfl
          refine AOps.nil ?_
          refine AWp.seq ?_
          refine AWp.start [0] [1, 2, 3, 4, 5, 6] [] [0, 1, 6, 7, 10, 11, 65] 0 ⟨[(0, .tv (fzL 1 (cInt .u8) v1)), (1, .tv (fzL 1 (cSl 1 (cInt .u8)) v2)), (6, .tv (fzL 1 (cSl 1 (cInt .u8)) v8.1)), (7, .tv (.int .i64 v8.2)), (10, .tv (fzL 1 (cInt .u8) v12.1)), (11, .tv (.int .i64 v12.2)), (65, .tv (fzL 1 (cSl 1 (cInt .u8)) v2))], []⟩ rfl ?_ (Nat.zero_le _) trivial ?_
          · kernel_rfl
          obtain ⟨v13, hv13, h⟩ := of_bind h
          refine AOps.cons (AOne.callP (F := (FF 113 0)) _ rfl rfl rfl _ rfl rfl _ _ rfl Try.call14 [.tv (fzL 1 (cSl 1 (cInt .u8)) v2)] rfl rfl (f14_ok v2 hv13) rfl) ?_
          refine AOps.go [2, 3, 4, 5, 6] [] [] [0, 1, 6, 7, 10, 11, 12, 13] 0 ⟨[(0, .tv (fzL 1 (cInt .u8) v1)), (1, .tv (fzL 1 (cSl 1 (cInt .u8)) v2)), (6, .tv (fzL 1 (cSl 1 (cInt .u8)) v8.1)), (7, .tv (.int .i64 v8.2)), (10, .tv (fzL 1 (cInt .u8) v12.1)), (11, .tv (.int .i64 v12.2)), (12, .tv (fzL 1 (cInt .u8) v13.1)), (13, .tv (.int .i64 v13.2))], []⟩ ?_ (Nat.zero_le _) trivial ?_
          · kernel_rfl
          refine AOps.nil ?_
          refine AWp.seq ?_
          refine AWp.seq ?_
          refine AWp.start [0] [1, 2, 3, 4, 5, 6, 7, 8, 9] [] [0, 1, 6, 7, 10, 11, 12, 13, 69] 0 ⟨[(0, .tv (fzL 1 (cInt .u8) v1)), (1, .tv (fzL 1 (cSl 1 (cInt .u8)) v2)), (6, .tv (fzL 1 (cSl 1 (cInt .u8)) v8.1)), (7, .tv (.int .i64 v8.2)), (10, .tv (fzL 1 (cInt .u8) v12.1)), (11, .tv (.int .i64 v12.2)), (12, .tv (fzL 1 (cInt .u8) v13.1)), (13, .tv (.int .i64 v13.2)), (69, .tv (fzL 1 (cInt .u8) v12.1))], []⟩ rfl ?_ (Nat.zero_le _) trivial ?_
          · kernel_rfl
          refine AOps.cons (AOne.str (F := (FF 113 0)) _ rfl rfl rfl _ rfl rfl rfl rfl rfl (n := v12.1.length) (f := (fun i => (cInt .u8) (v12.1.getD i default))) rfl v12.1 rfl (fun _ _ => rfl)) ?_
          refine AOps.go [2] [3, 4, 5, 6, 7, 8, 9] [] [0, 1, 6, 7, 10, 11, 13, 70, 71] 0 ⟨[(0, .tv (fzL 1 (cInt .u8) v1)), (1, .tv (fzL 1 (cSl 1 (cInt .u8)) v2)), (6, .tv (fzL 1 (cSl 1 (cInt .u8)) v8.1)), (7, .tv (.int .i64 v8.2)), (10, .tv (fzL 1 (cInt .u8) v12.1)), (11, .tv (.int .i64 v12.2)), (13, .tv (.int .i64 v13.2)), (70, .tv (.str (v12.1.map (fun n => UInt8.ofNat n.toNat)))), (71, .tv (fzL 1 (cInt .u8) v13.1))], []⟩ ?_ (Nat.zero_le _) trivial ?_
          · kernel_rfl
          refine AOps.cons (AOne.str (F := (FF 113 0)) _ rfl rfl rfl _ rfl rfl rfl rfl rfl (n := v13.1.length) (f := (fun i => (cInt .u8) (v13.1.getD i default))) rfl v13.1 rfl (fun _ _ => rfl)) ?_
          refine AOps.go [4, 5] [6, 7, 8, 9] [] [0, 1, 6, 7, 10, 11, 13, 74] 0 ⟨[(0, .tv (fzL 1 (cInt .u8) v1)), (1, .tv (fzL 1 (cSl 1 (cInt .u8)) v2)), (6, .tv (fzL 1 (cSl 1 (cInt .u8)) v8.1)), (7, .tv (.int .i64 v8.2)), (10, .tv (fzL 1 (cInt .u8) v12.1)), (11, .tv (.int .i64 v12.2)), (13, .tv (.int .i64 v13.2)), (74, .tv (.bool (!((v12.1.map (fun n => UInt8.ofNat n.toNat)) == (v13.1.map (fun n => UInt8.ofNat n.toNat))))))], []⟩ ?_ (Nat.zero_le _) trivial ?_
          · kernel_rfl
          obtain ⟨v14, hc6, h⟩ := of_bind h
          refine AOps.cut [6, 7, 8, 9] [] (fun σ => σ = ⟨[(0, .tv (fzL 1 (cInt .u8) v1)), (1, .tv (fzL 1 (cSl 1 (cInt .u8)) v2)), (6, .tv (fzL 1 (cSl 1 (cInt .u8)) v8.1)), (7, .tv (.int .i64 v8.2)), (10, .tv (fzL 1 (cInt .u8) v12.1)), (11, .tv (.int .i64 v12.2)), (78, .tv (.bool v14))], []⟩) ?_ fun σ' hJ => ?_
          · refine AOps.split (fun b => ⟨[(0, .tv (fzL 1 (cInt .u8) v1)), (1, .tv (fzL 1 (cSl 1 (cInt .u8)) v2)), (6, .tv (fzL 1 (cSl 1 (cInt .u8)) v8.1)), (7, .tv (.int .i64 v8.2)), (10, .tv (fzL 1 (cInt .u8) v12.1)), (11, .tv (.int .i64 v12.2)), (13, .tv (.int .i64 v13.2)), (74, .tv (.bool b))], []⟩) _ (fun hb => ?_) fun hb => ?_
            · replace hc6 := of_true hc6 hb
              refine AOps.go [6, 7, 8, 9] [] [] [0, 1, 6, 7, 10, 11, 78] 0 ⟨[(0, .tv (fzL 1 (cInt .u8) v1)), (1, .tv (fzL 1 (cSl 1 (cInt .u8)) v2)), (6, .tv (fzL 1 (cSl 1 (cInt .u8)) v8.1)), (7, .tv (.int .i64 v8.2)), (10, .tv (fzL 1 (cInt .u8) v12.1)), (11, .tv (.int .i64 v12.2)), (78, .tv (.bool true))], []⟩ ?_ (Nat.zero_le _) trivial ?_
              · kernel_rfl
              cases hc6
              exact AOps.nil rfl
            · replace hc6 := of_false hc6 hb
              refine AOps.go [6, 7, 8, 9] [] [] [0, 1, 6, 7, 10, 11, 78] 0 ⟨[(0, .tv (fzL 1 (cInt .u8) v1)), (1, .tv (fzL 1 (cSl 1 (cInt .u8)) v2)), (6, .tv (fzL 1 (cSl 1 (cInt .u8)) v8.1)), (7, .tv (.int .i64 v8.2)), (10, .tv (fzL 1 (cInt .u8) v12.1)), (11, .tv (.int .i64 v12.2)), (78, .tv (.bool (v12.2 != v13.2)))], []⟩ ?_ (Nat.zero_le _) trivial ?_
              · kernel_rfl
              cases hc6
              exact AOps.nil rfl
          subst hJ
          refine AOps.nil ?_
          refine AWp.cond rfl (fun hb => ?_) fun hb => ?_
          · replace h := of_true h hb
            refine AWp.keepTo [] 0 ⟨[], []⟩ ?_ (Nat.zero_le _) ?_
            · kernel_rfl
            refine AWp.seq ?_
            refine AWp.start [0] [] [] [4] 0 ⟨[(4, .tv (.bool false))], []⟩ rfl ?_ (Nat.zero_le _) trivial ?_
            · kernel_rfl
            refine AOps.nil ?_
            refine AWp.ret ?_
            cases h
            exact ⟨.inr rfl, rfl⟩
          · replace h := of_false h hb
            refine AWp.keepTo [0, 1, 6, 7, 10, 11] 0 ⟨[(0, .tv (fzL 1 (cInt .u8) v1)), (1, .tv (fzL 1 (cSl 1 (cInt .u8)) v2)), (6, .tv (fzL 1 (cSl 1 (cInt .u8)) v8.1)), (7, .tv (.int .i64 v8.2)), (10, .tv (fzL 1 (cInt .u8) v12.1)), (11, .tv (.int .i64 v12.2))], []⟩ ?_ (Nat.zero_le _) ?_
            · kernel_rfl
            refine AWp.skip ?_
            refine AWp.join (V := Unit) (fun w => ⟨[(1, .tv (fzL 1 (cSl 1 (cInt .u8)) v2)), (10, .tv (fzL 1 (cInt .u8) v12.1)), (11, .tv (.int .i64 v12.2))], []⟩) (fun w => f3_j2 v2 v12 = some r) ?_ ?_
            · refine AWp.seq ?_
              refine AWp.start [0, 1] [] [] [0, 1, 6, 10, 11, 80] 0 ⟨[(0, .tv (fzL 1 (cInt .u8) v1)), (1, .tv (fzL 1 (cSl 1 (cInt .u8)) v2)), (6, .tv (fzL 1 (cSl 1 (cInt .u8)) v8.1)), (10, .tv (fzL 1 (cInt .u8) v12.1)), (11, .tv (.int .i64 v12.2)), (80, .tv (.bool (v8.2 == (0 : Int))))], []⟩ rfl ?_ (Nat.zero_le _) trivial ?_
              · kernel_rfl
              refine AOps.nil ?_
              refine AWp.cond rfl (fun hb => ?_) fun hb => ?_
              · replace h := of_true h hb
                refine AWp.keepTo [0, 1, 6, 10, 11] 0 ⟨[(0, .tv (fzL 1 (cInt .u8) v1)), (1, .tv (fzL 1 (cSl 1 (cInt .u8)) v2)), (6, .tv (fzL 1 (cSl 1 (cInt .u8)) v8.1)), (10, .tv (fzL 1 (cInt .u8) v12.1)), (11, .tv (.int .i64 v12.2))], []⟩ ?_ (Nat.zero_le _) ?_
                · kernel_rfl
                refine AWp.seq ?_
                refine AWp.start [0] [1, 2, 3, 4, 5, 6] [] [0, 1, 10, 11, 82] 0 ⟨[(0, .tv (fzL 1 (cInt .u8) v1)), (1, .tv (fzL 1 (cSl 1 (cInt .u8)) v2)), (10, .tv (fzL 1 (cInt .u8) v12.1)), (11, .tv (.int .i64 v12.2)), (82, .tv (fzL 1 (cSl 1 (cInt .u8)) v8.1))], []⟩ rfl ?_ (Nat.zero_le _) trivial ?_
                · kernel_rfl
                obtain ⟨v21, hv21, h⟩ := of_bind h
                refine AOps.cons (AOne.callP (F := (FF 113 0)) _ rfl rfl rfl _ rfl rfl _ _ rfl Try.call13 [.tv (fzL 1 (cSl 1 (cInt .u8)) v8.1)] rfl rfl (f13_ok v8.1 hv21) rfl) ?_
                refine AOps.go [2, 3, 4, 5, 6] [] [] [0, 1, 10, 11, 14, 15] 0 ⟨[(0, .tv (fzL 1 (cInt .u8) v1)), (1, .tv (fzL 1 (cSl 1 (cInt .u8)) v2)), (10, .tv (fzL 1 (cInt .u8) v12.1)), (11, .tv (.int .i64 v12.2)), (14, .tv (fzL 1 (cInt .u8) v21.1)), (15, .tv (.int .i64 v21.2))], []⟩ ?_ (Nat.zero_le _) trivial ?_
                · kernel_rfl
                refine AOps.nil ?_
                refine AWp.seq ?_
                refine AWp.start [0, 1, 2] [3, 4, 5, 6, 7, 8] [] [0, 1, 10, 11, 14, 88] 0 ⟨[(0, .tv (fzL 1 (cInt .u8) v1)), (1, .tv (fzL 1 (cSl 1 (cInt .u8)) v2)), (10, .tv (fzL 1 (cInt .u8) v12.1)), (11, .tv (.int .i64 v12.2)), (14, .tv (fzL 1 (cInt .u8) v21.1)), (88, .tv (.bool (v21.2 != (0 : Int))))], []⟩ rfl ?_ (Nat.zero_le _) trivial ?_
                · kernel_rfl
                obtain ⟨v22, hc3, h⟩ := of_bind h
                refine AOps.cut [3, 4, 5, 6, 7, 8] [] (fun σ => σ = ⟨[(1, .tv (fzL 1 (cSl 1 (cInt .u8)) v2)), (10, .tv (fzL 1 (cInt .u8) v12.1)), (11, .tv (.int .i64 v12.2)), (94, .tv (.bool v22))], []⟩) ?_ fun σ' hJ => ?_
                · refine AOps.split (fun b => ⟨[(0, .tv (fzL 1 (cInt .u8) v1)), (1, .tv (fzL 1 (cSl 1 (cInt .u8)) v2)), (10, .tv (fzL 1 (cInt .u8) v12.1)), (11, .tv (.int .i64 v12.2)), (14, .tv (fzL 1 (cInt .u8) v21.1)), (88, .tv (.bool b))], []⟩) _ (fun hb => ?_) fun hb => ?_
                  · replace hc3 := of_true hc3 hb
                    refine AOps.go [3, 4, 5, 6, 7, 8] [] [] [1, 10, 11, 94] 0 ⟨[(1, .tv (fzL 1 (cSl 1 (cInt .u8)) v2)), (10, .tv (fzL 1 (cInt .u8) v12.1)), (11, .tv (.int .i64 v12.2)), (94, .tv (.bool true))], []⟩ ?_ (Nat.zero_le _) trivial ?_
                    · kernel_rfl
                    cases hc3
                    exact AOps.nil rfl
                  · replace hc3 := of_false hc3 hb
                    refine AOps.go [3] [4, 5, 6, 7, 8] [] [0, 1, 10, 11, 88, 89] 0 ⟨[(0, .tv (fzL 1 (cInt .u8) v1)), (1, .tv (fzL 1 (cSl 1 (cInt .u8)) v2)), (10, .tv (fzL 1 (cInt .u8) v12.1)), (11, .tv (.int .i64 v12.2)), (88, .tv (.bool false)), (89, .tv (fzL 1 (cInt .u8) v21.1))], []⟩ ?_ (Nat.zero_le _) trivial ?_
                    · kernel_rfl
                    refine AOps.cons (AOne.str (F := (FF 113 0)) _ rfl rfl rfl _ rfl rfl rfl rfl rfl (n := v21.1.length) (f := (fun i => (cInt .u8) (v21.1.getD i default))) rfl v21.1 rfl (fun _ _ => rfl)) ?_
                    refine AOps.go [5] [6, 7, 8] [] [1, 10, 11, 88, 90, 91] 0 ⟨[(1, .tv (fzL 1 (cSl 1 (cInt .u8)) v2)), (10, .tv (fzL 1 (cInt .u8) v12.1)), (11, .tv (.int .i64 v12.2)), (88, .tv (.bool false)), (90, .tv (.str (v21.1.map (fun n => UInt8.ofNat n.toNat)))), (91, .tv (fzL 1 (cInt .u8) v1))], []⟩ ?_ (Nat.zero_le _) trivial ?_
                    · kernel_rfl
                    refine AOps.cons (AOne.str (F := (FF 113 0)) _ rfl rfl rfl _ rfl rfl rfl rfl rfl (n := v1.length) (f := (fun i => (cInt .u8) (v1.getD i default))) rfl v1 rfl (fun _ _ => rfl)) ?_
                    refine AOps.go [7, 8] [] [] [1, 10, 11, 94] 0 ⟨[(1, .tv (fzL 1 (cSl 1 (cInt .u8)) v2)), (10, .tv (fzL 1 (cInt .u8) v12.1)), (11, .tv (.int .i64 v12.2)), (94, .tv (.bool (!((v21.1.map (fun n => UInt8.ofNat n.toNat)) == (v1.map (fun n => UInt8.ofNat n.toNat))))))], []⟩ ?_ (Nat.zero_le _) trivial ?_
                    · kernel_rfl
                    cases hc3
                    exact AOps.nil rfl
                subst hJ
                refine AOps.nil ?_
                refine AWp.cond rfl (fun hb => ?_) fun hb => ?_
                · replace h := of_true h hb
                  refine AWp.keepTo [] 0 ⟨[], []⟩ ?_ (Nat.zero_le _) ?_
                  · kernel_rfl
                  refine AWp.seq ?_
                  refine AWp.start [0] [] [] [4] 0 ⟨[(4, .tv (.bool false))], []⟩ rfl ?_ (Nat.zero_le _) trivial ?_
                  · kernel_rfl
                  refine AOps.nil ?_
                  refine AWp.ret ?_
                  cases h
                  exact ⟨.inr rfl, rfl⟩
                · replace h := of_false h hb
                  refine AWp.keepTo [1, 10, 11] 0 ⟨[(1, .tv (fzL 1 (cSl 1 (cInt .u8)) v2)), (10, .tv (fzL 1 (cInt .u8) v12.1)), (11, .tv (.int .i64 v12.2))], []⟩ ?_ (Nat.zero_le _) ?_
                  · kernel_rfl
                  refine AWp.skip ?_
                  exact ⟨(), h, rfl⟩
              · replace h := of_false h hb
                refine AWp.keepTo [1, 10, 11] 0 ⟨[(1, .tv (fzL 1 (cSl 1 (cInt .u8)) v2)), (10, .tv (fzL 1 (cInt .u8) v12.1)), (11, .tv (.int .i64 v12.2))], []⟩ ?_ (Nat.zero_le _) ?_
                · kernel_rfl
                refine AWp.skip ?_
                exact ⟨(), h, rfl⟩
            · rintro ⟨⟩ h
              refine AWp.seq ?_
              refine AWp.seq ?_
              refine AWp.start [0, 1] [] [] [1, 10, 96] 0 ⟨[(1, .tv (fzL 1 (cSl 1 (cInt .u8)) v2)), (10, .tv (fzL 1 (cInt .u8) v12.1)), (96, .tv (.bool (v12.2 != (0 : Int))))], []⟩ rfl ?_ (Nat.zero_le _) trivial ?_
              · kernel_rfl
              refine AOps.nil ?_
              refine AWp.cond rfl (fun hb => ?_) fun hb => ?_
              · replace h := of_true h hb
                refine AWp.keepTo [] 0 ⟨[], []⟩ ?_ (Nat.zero_le _) ?_
                · kernel_rfl
                refine AWp.seq ?_
                refine AWp.start [] [0, 1] [] [] 0 ⟨[], []⟩ rfl ?_ (Nat.zero_le _) trivial ?_
                · kernel_rfl
                obtain ⟨v15, hv15, h⟩ := of_bind h
                refine AOps.cons (AOne.callP (F := (FF 113 0)) _ rfl rfl rfl _ rfl rfl _ _ rfl Try.call9 [] rfl rfl (f9_ok  hv15) rfl) ?_
                refine AOps.go [1] [] [] [4] 0 ⟨[(4, .tv (.bool v15))], []⟩ ?_ (Nat.zero_le _) trivial ?_
                · kernel_rfl
                refine AOps.nil ?_
                refine AWp.ret ?_
                cases h
                exact ⟨.inr rfl, rfl⟩
              · replace h := of_false h hb
                refine AWp.keepTo [1, 10] 0 ⟨[(1, .tv (fzL 1 (cSl 1 (cInt .u8)) v2)), (10, .tv (fzL 1 (cInt .u8) v12.1))], []⟩ ?_ (Nat.zero_le _) ?_
                · kernel_rfl
                refine AWp.skip ?_
                refine AWp.seq ?_
                refine AWp.start [0] [1, 2, 3, 4, 5, 6] [] [1, 99] 0 ⟨[(1, .tv (fzL 1 (cSl 1 (cInt .u8)) v2)), (99, .tv (fzL 1 (cInt .u8) v12.1))], []⟩ rfl ?_ (Nat.zero_le _) trivial ?_
                · kernel_rfl
                obtain ⟨v16, hv16, h⟩ := of_bind h
                refine AOps.cons (AOne.callP (F := (FF 113 0)) _ rfl rfl rfl _ rfl rfl _ _ rfl Try.call10 [.tv (fzL 1 (cInt .u8) v12.1)] rfl rfl (f10_ok v12.1 hv16) rfl) ?_
                refine AOps.go [2, 3, 4, 5, 6] [] [] [1, 16, 17] 0 ⟨[(1, .tv (fzL 1 (cSl 1 (cInt .u8)) v2)), (16, .tv (fzL 1 (cSl 1 (cInt .u8)) v16.1)), (17, .tv (.int .i64 v16.2))], []⟩ ?_ (Nat.zero_le _) trivial ?_
                · kernel_rfl
                refine AOps.nil ?_
                refine AWp.seq ?_
                refine AWp.start [0, 1, 2] [3, 4, 5, 6, 7, 8, 9, 10] [] [1, 16, 105] 0 ⟨[(1, .tv (fzL 1 (cSl 1 (cInt .u8)) v2)), (16, .tv (fzL 1 (cSl 1 (cInt .u8)) v16.1)), (105, .tv (.bool (v16.2 == (0 : Int))))], []⟩ rfl ?_ (Nat.zero_le _) trivial ?_
                · kernel_rfl
                obtain ⟨v17, hc3, h⟩ := of_bind h
                refine AOps.cut [3, 4, 5, 6] [7, 8, 9, 10] (fun σ => σ = ⟨[(109, .tv (.bool v17))], []⟩) ?_ fun σ' hJ => ?_
                · refine AOps.split (fun b => ⟨[(1, .tv (fzL 1 (cSl 1 (cInt .u8)) v2)), (16, .tv (fzL 1 (cSl 1 (cInt .u8)) v16.1)), (105, .tv (.bool b))], []⟩) _ (fun hb => ?_) fun hb => ?_
                  · replace hc3 := of_true hc3 hb
                    refine AOps.go [3, 4] [5, 6] [] [105, 106, 107] 0 ⟨[(105, .tv (.bool true)), (106, .tv (fzL 1 (cSl 1 (cInt .u8)) v16.1)), (107, .tv (fzL 1 (cSl 1 (cInt .u8)) v2))], []⟩ ?_ (Nat.zero_le _) trivial ?_
                    · kernel_rfl
                    obtain ⟨v18, hv18, hc3⟩ := of_bind hc3
                    refine AOps.cons (AOne.callP (F := (FF 113 0)) _ rfl rfl rfl _ rfl rfl _ _ rfl Try.call12 [.tv (fzL 1 (cSl 1 (cInt .u8)) v16.1), .tv (fzL 1 (cSl 1 (cInt .u8)) v2)] rfl rfl (f12_ok v16.1 v2 hv18) rfl) ?_
                    refine AOps.go [6] [] [] [109] 0 ⟨[(109, .tv (.bool v18))], []⟩ ?_ (Nat.zero_le _) trivial ?_
                    · kernel_rfl
                    cases hc3
                    exact AOps.nil rfl
                  · replace hc3 := of_false hc3 hb
                    refine AOps.go [3, 4, 5, 6] [] [] [109] 0 ⟨[(109, .tv (.bool false))], []⟩ ?_ (Nat.zero_le _) trivial ?_
                    · kernel_rfl
                    cases hc3
                    exact AOps.nil rfl
                subst hJ
                refine AOps.go [7] [8, 9, 10] [] [110] 0 ⟨[(110, .tv (.bool v17))], []⟩ ?_ (Nat.zero_le _) trivial ?_
                · kernel_rfl
                obtain ⟨v19, hc8, h⟩ := of_bind h
                refine AOps.cut [8, 9] [10] (fun σ => σ = ⟨[(112, .tv (.bool v19))], []⟩) ?_ fun σ' hJ => ?_
                · refine AOps.split (fun b => ⟨[(110, .tv (.bool b))], []⟩) _ (fun hb => ?_) fun hb => ?_
                  · replace hc8 := of_true hc8 hb
                    obtain ⟨v20, hv20, hc8⟩ := of_bind hc8
                    refine AOps.cons (AOne.callP (F := (FF 113 0)) _ rfl rfl rfl _ rfl rfl _ _ rfl Try.call9 [] rfl rfl (f9_ok  hv20) rfl) ?_
                    refine AOps.go [9] [] [] [112] 0 ⟨[(112, .tv (.bool v20))], []⟩ ?_ (Nat.zero_le _) trivial ?_
                    · kernel_rfl
                    cases hc8
                    exact AOps.nil rfl
                  · replace hc8 := of_false hc8 hb
                    refine AOps.go [8, 9] [] [] [112] 0 ⟨[(112, .tv (.bool false))], []⟩ ?_ (Nat.zero_le _) trivial ?_
                    · kernel_rfl
                    cases hc8
                    exact AOps.nil rfl
                subst hJ
                refine AOps.go [10] [] [] [4] 0 ⟨[(4, .tv (.bool v19))], []⟩ ?_ (Nat.zero_le _) trivial ?_
                · kernel_rfl
                refine AOps.nil ?_
                refine AWp.ret ?_
                cases h
                exact ⟨.inr rfl, rfl⟩

noncomputable def f15_b1 (v2 : List T46) (v3 : Int) : Option (Int ⊕ Out Bool Unit) :=
  cond (decide (v3 < (v2.length : Int))) (if (0 : Int) ≤ v3 ∧ v3 < (v2.length : Int) then cond (decide ((((v2.getD v3.toNat default).f3).length : Int) > (21000 : Int))) (some (.inr (.ret true))) (some (.inl (w64 (v3 + (1 : Int))))) else none) (some (.inr (.go ())))

noncomputable def f15 (v1 : T32) (v2 : List T46) : Option Bool :=
  (iter (fun s => f15_b1 v2 s) (0 : Int)).bind fun y => match y with | .ret v4 => some v4 | .go _ => (cond (decide ((v2.length : Int) > (60 : Int))) (some true) (some (decide ((v1.f2.length : Int) > (21000 : Int))))).bind fun v5 => some v5

theorem f15_ok (v1 : T32) (v2 : List T46) {r : Bool} (h : f15 v1 v2 = some r) : ACall Try.prog 15 [.agg [.str v1.f0, .int .i64 v1.f1, fzL 1 (cInt .u8) v1.f2], .tv (fzL 4 c46 v2)] [] (.tv (.bool r)) [] := by
  refine ACall.of1 (FF 28 0) Try.func15 rfl Try.ntmps15 Try.results15 (Nat.le_of_ble_eq_true rfl) rfl rfl ?_
  refine AWp.seq ?_
  refine AWp.start [0, 1] [] [] [1, 2] 1 ⟨[(1, .tv (fzL 4 c46 v2)), (2, .pc 0 0)], [.cells 33 [.str v1.f0, .int .i64 v1.f1, fzL 1 (cInt .u8) v1.f2]]⟩ rfl ?_ (Nat.zero_le _) trivial ?_
  · kernel_rfl
  refine AOps.nil ?_
  refine AWp.seq ?_
  refine AWp.seq ?_
  refine AWp.pin 0 rfl rfl ?_
  refine AWp.keepTo [1, 2] 0 ⟨[(1, .tv (fzL 4 c46 v2)), (2, .rp [.str v1.f0, .int .i64 v1.f1, fzL 1 (cInt .u8) v1.f2])], []⟩ ?_ (Nat.zero_le _) ?_
  · kernel_rfl
  refine AWp.start [0] [] [] [1, 2, 5] 0 ⟨[(1, .tv (fzL 4 c46 v2)), (2, .rp [.str v1.f0, .int .i64 v1.f1, fzL 1 (cInt .u8) v1.f2]), (5, .tv (.int .i64 (0 : Int)))], []⟩ rfl ?_ (Nat.zero_le _) trivial ?_
  · kernel_rfl
  refine AOps.nil ?_
  refine AWp.block ?_
  obtain ⟨y, hy, h⟩ := of_bind h
  refine AWp.mono (AWp.loop (S := Int) (Y := Out Bool Unit) (fun s => ⟨[(1, .tv (fzL 4 c46 v2)), (2, .rp [.str v1.f0, .int .i64 v1.f1, fzL 1 (cInt .u8) v1.f2]), (5, .tv (.int .i64 s))], []⟩) (fun s => f15_b1 v2 s) (fun y e σ => match y with | .ret r => e = .ret ∧ σ = ⟨[(4, .tv (.bool r))], []⟩ | .go v => e = .exit 0 ∧ σ = ⟨[(1, .tv (fzL 4 c46 v2)), (2, .rp [.str v1.f0, .int .i64 v1.f1, fzL 1 (cInt .u8) v1.f2])], []⟩) ?_ hy) ?_
  · rintro v3 o h
    refine AWp.seq ?_
    refine AWp.seq ?_
    refine AWp.start [0, 1, 2, 3] [] [] [1, 2, 5, 9] 0 ⟨[(1, .tv (fzL 4 c46 v2)), (2, .rp [.str v1.f0, .int .i64 v1.f1, fzL 1 (cInt .u8) v1.f2]), (5, .tv (.int .i64 v3)), (9, .tv (.bool (decide (v3 < (v2.length : Int)))))], []⟩ rfl ?_ (Nat.zero_le _) trivial ?_
    · kernel_rfl
    refine AOps.nil ?_
    refine AWp.cond rfl (fun hb => ?_) fun hb => ?_
    · replace h := of_true h hb
      refine AWp.keepTo [1, 2, 5] 0 ⟨[(1, .tv (fzL 4 c46 v2)), (2, .rp [.str v1.f0, .int .i64 v1.f1, fzL 1 (cInt .u8) v1.f2]), (5, .tv (.int .i64 v3))], []⟩ ?_ (Nat.zero_le _) ?_
      · kernel_rfl
      refine AWp.skip ?_
      refine AWp.seq ?_
      refine AWp.block ?_
      refine AWp.seq ?_
      obtain ⟨hg, h⟩ := of_guard h
      refine AWp.start [0, 1, 2, 3, 4, 5, 6] [] [(0 : Int) ≤ v3, v3 < (v2.length : Int)] [1, 2, 5, 18] 0 ⟨[(1, .tv (fzL 4 c46 v2)), (2, .rp [.str v1.f0, .int .i64 v1.f1, fzL 1 (cInt .u8) v1.f2]), (5, .tv (.int .i64 v3)), (18, .tv (.bool (decide ((((v2.getD v3.toNat default).f3).length : Int) > (21000 : Int)))))], []⟩ rfl ?_ (Nat.zero_le _) ⟨hg.1, hg.2⟩ ?_
      · kernel_rfl
      refine AOps.nil ?_
      refine AWp.cond rfl (fun hb => ?_) fun hb => ?_
      · replace h := of_true h hb
        refine AWp.keepTo [] 0 ⟨[], []⟩ ?_ (Nat.zero_le _) ?_
        · kernel_rfl
        refine AWp.seq ?_
        refine AWp.start [0] [] [] [4] 0 ⟨[(4, .tv (.bool true))], []⟩ rfl ?_ (Nat.zero_le _) trivial ?_
        · kernel_rfl
        refine AOps.nil ?_
        refine AWp.ret ?_
        cases h
        exact Or.inr ⟨_, rfl, by simp, rfl, rfl⟩
      · replace h := of_false h hb
        refine AWp.keepTo [1, 2, 5] 0 ⟨[(1, .tv (fzL 4 c46 v2)), (2, .rp [.str v1.f0, .int .i64 v1.f1, fzL 1 (cInt .u8) v1.f2]), (5, .tv (.int .i64 v3))], []⟩ ?_ (Nat.zero_le _) ?_
        · kernel_rfl
        refine AWp.skip ?_
        refine AWp.start [0, 1, 2] [] [] [1, 2, 5] 0 ⟨[(1, .tv (fzL 4 c46 v2)), (2, .rp [.str v1.f0, .int .i64 v1.f1, fzL 1 (cInt .u8) v1.f2]), (5, .tv (.int .i64 (w64 (v3 + (1 : Int)))))], []⟩ rfl ?_ (Nat.zero_le _) trivial ?_
        · kernel_rfl
        refine AOps.nil ?_
        cases h
        exact Or.inl ⟨_, rfl, rfl, rfl⟩
    · replace h := of_false h hb
      refine AWp.keepTo [1, 2] 0 ⟨[(1, .tv (fzL 4 c46 v2)), (2, .rp [.str v1.f0, .int .i64 v1.f1, fzL 1 (cInt .u8) v1.f2])], []⟩ ?_ (Nat.zero_le _) ?_
      · kernel_rfl
      refine AWp.exit ?_
      cases h
      exact Or.inr ⟨_, rfl, by simp, rfl, rfl⟩
  · intro e σ hp
    rcases y with v4 | _
    · obtain ⟨rfl, rfl⟩ := hp
      cases h
      exact ⟨.inr rfl, rfl⟩
    · obtain ⟨rfl, rfl⟩ := hp
      refine AWp.seq ?_
      refine AWp.start [0, 1, 2, 3] [4, 5, 6, 7, 8, 9] [] [2, 22] 0 ⟨[(2, .rp [.str v1.f0, .int .i64 v1.f1, fzL 1 (cInt .u8) v1.f2]), (22, .tv (.bool (decide ((v2.length : Int) > (60 : Int)))))], []⟩ rfl ?_ (Nat.zero_le _) trivial ?_
      · kernel_rfl
      obtain ⟨v5, hc4, h⟩ := of_bind h
      refine AOps.cut [4, 5, 6, 7, 8] [9] (fun σ => σ = ⟨[(27, .tv (.bool v5))], []⟩) ?_ fun σ' hJ => ?_
      · refine AOps.split (fun b => ⟨[(2, .rp [.str v1.f0, .int .i64 v1.f1, fzL 1 (cInt .u8) v1.f2]), (22, .tv (.bool b))], []⟩) _ (fun hb => ?_) fun hb => ?_
        · replace hc4 := of_true hc4 hb
          refine AOps.go [4, 5, 6, 7, 8] [] [] [27] 0 ⟨[(27, .tv (.bool true))], []⟩ ?_ (Nat.zero_le _) trivial ?_
          · kernel_rfl
          cases hc4
          exact AOps.nil rfl
        · replace hc4 := of_false hc4 hb
          refine AOps.go [4, 5, 6, 7, 8] [] [] [27] 0 ⟨[(27, .tv (.bool (decide ((v1.f2.length : Int) > (21000 : Int)))))], []⟩ ?_ (Nat.zero_le _) trivial ?_
          · kernel_rfl
          cases hc4
          exact AOps.nil rfl
      subst hJ
      refine AOps.go [9] [] [] [4] 0 ⟨[(4, .tv (.bool v5))], []⟩ ?_ (Nat.zero_le _) trivial ?_
      · kernel_rfl
      refine AOps.nil ?_
      refine AWp.ret ?_
      cases h
      exact ⟨.inr rfl, rfl⟩

noncomputable def f18 (v1 : T64) : Option (Int × Int) :=
  (f41 v1).bind fun v2 => cond v2 (some ((0 : Int), (7 : Int))) (cond (v1.f0 == ([100, 105, 114, 101, 99, 116] : List UInt8)) (if v1.f1 ≠ (0 : Int) then some (w64 (Int.tdiv (v1.f2.length : Int) v1.f1), (0 : Int)) else none) (cond (v1.f0 == ([115, 116, 114, 101, 97, 109] : List UInt8)) (some ((v1.f2.length : Int), (0 : Int))) ((f35 v1.f0 v1.f2).bind fun v3 => some ((v3.1.length : Int), (0 : Int)))))

theorem f18_ok (v1 : T64) {r : Int × Int} (h : f18 v1 = some r) : ACall Try.prog 18 [.rp [.str v1.f0, .int .i64 v1.f1, fzL 1 (cInt .u8) v1.f2, .int .i64 v1.f3, .bool v1.f4]] [] (.tup [.tv (.int .i64 r.1), .tv (.int .i64 r.2)]) [] := by
  refine ACall.ofN (FF 50 0) (rs := [2, 3]) (env := [(2, .tv (.int .i64 r.1)), (3, .tv (.int .i64 r.2))]) Try.func18 rfl Try.ntmps18 Try.results18 (by decide) (by decide) rfl (Nat.le_of_ble_eq_true rfl) rfl (get_ofN _ _ _ rfl) (ok_ofN _ rfl) ?_
  refine AWp.seq ?_
  refine AWp.start [0, 1] [] [] [0] 0 ⟨[(0, .rp [.str v1.f0, .int .i64 v1.f1, fzL 1 (cInt .u8) v1.f2, .int .i64 v1.f3, .bool v1.f4])], []⟩ rfl ?_ (Nat.zero_le _) trivial ?_
  · kernel_rfl
  refine AOps.nil ?_
  refine AWp.seq ?_
  refine AWp.block ?_
  refine AWp.seq ?_
  refine AWp.start [0] [1, 2] [] [0, 7] 0 ⟨[(0, .rp [.str v1.f0, .int .i64 v1.f1, fzL 1 (cInt .u8) v1.f2, .int .i64 v1.f3, .bool v1.f4]), (7, .rp [.str v1.f0, .int .i64 v1.f1, fzL 1 (cInt .u8) v1.f2, .int .i64 v1.f3, .bool v1.f4])], []⟩ rfl ?_ (Nat.zero_le _) trivial ?_
  · kernel_rfl
  obtain ⟨v2, hv2, h⟩ := of_bind h
  refine AOps.cons (AOne.callP (F := (FF 50 0)) _ rfl rfl rfl _ rfl rfl _ _ rfl Try.call41 [.rp [.str v1.f0, .int .i64 v1.f1, fzL 1 (cInt .u8) v1.f2, .int .i64 v1.f3, .bool v1.f4]] rfl rfl (f41_ok v1 hv2) rfl) ?_
  refine AOps.go [2] [] [] [0, 6] 0 ⟨[(0, .rp [.str v1.f0, .int .i64 v1.f1, fzL 1 (cInt .u8) v1.f2, .int .i64 v1.f3, .bool v1.f4]), (6, .tv (.bool v2))], []⟩ ?_ (Nat.zero_le _) trivial ?_
  · kernel_rfl
  refine AOps.nil ?_
  refine AWp.cond rfl (fun hb => ?_) fun hb => ?_
  · replace h := of_true h hb
    refine AWp.keepTo [] 0 ⟨[], []⟩ ?_ (Nat.zero_le _) ?_
    · kernel_rfl
    refine AWp.seq ?_
    refine AWp.start [0, 1] [] [] [2, 3] 0 ⟨[(2, .tv (.int .i64 (0 : Int))), (3, .tv (.int .i64 (7 : Int)))], []⟩ rfl ?_ (Nat.zero_le _) trivial ?_
    · kernel_rfl
    refine AOps.nil ?_
    refine AWp.ret ?_
    cases h
    exact ⟨.inr rfl, rfl⟩
  · replace h := of_false h hb
    refine AWp.keepTo [0] 0 ⟨[(0, .rp [.str v1.f0, .int .i64 v1.f1, fzL 1 (cInt .u8) v1.f2, .int .i64 v1.f3, .bool v1.f4])], []⟩ ?_ (Nat.zero_le _) ?_
    · kernel_rfl
    refine AWp.seq ?_
    refine AWp.start [0, 1, 2, 3, 4, 5] [] [] [0, 9] 0 ⟨[(0, .rp [.str v1.f0, .int .i64 v1.f1, fzL 1 (cInt .u8) v1.f2, .int .i64 v1.f3, .bool v1.f4]), (9, .tv (.bool (v1.f0 == ([100, 105, 114, 101, 99, 116] : List UInt8))))], []⟩ rfl ?_ (Nat.zero_le _) trivial ?_
    · kernel_rfl
    refine AOps.nil ?_
    refine AWp.cond rfl (fun hb => ?_) fun hb => ?_
    · replace h := of_true h hb
      refine AWp.keepTo [0] 0 ⟨[(0, .rp [.str v1.f0, .int .i64 v1.f1, fzL 1 (cInt .u8) v1.f2, .int .i64 v1.f3, .bool v1.f4])], []⟩ ?_ (Nat.zero_le _) ?_
      · kernel_rfl
      refine AWp.seq ?_
      refine AWp.draw FFm _ (n := 12) rfl (ls := #[false, false, false, false, false, false, false, false, false, false, false, false]) rfl ?_ (fun _ h => h)
      obtain ⟨hg, h⟩ := of_guard h
      refine AAny.go (by kernel_rfl) [0, 1, 2, 3, 4, 5, 6, 7, 8, 9, 10, 11] (fuel' := 0) rfl [v1.f1 ≠ (0 : Int)] #[true, true, true, true, true, true, true, true, true, true, true, true] [2, 3] 0 ⟨[(2, .tv (.int .i64 (w64 (Int.tdiv (v1.f2.length : Int) v1.f1)))), (3, .tv (.int .i64 (0 : Int)))], []⟩ ?_ (Nat.zero_le _) hg ?_
      · kernel_rfl
      refine AAny.keepTo [2, 3] 0 ⟨[(2, .tv (.int .i64 (w64 (Int.tdiv (v1.f2.length : Int) v1.f1)))), (3, .tv (.int .i64 (0 : Int)))], []⟩ _ ?_ rfl (Nat.zero_le _) (AAny.done (by kernel_rfl) ?_)
      · kernel_rfl
      refine AWp.ret ?_
      cases h
      exact ⟨.inr rfl, rfl⟩
    · replace h := of_false h hb
      refine AWp.keepTo [0] 0 ⟨[(0, .rp [.str v1.f0, .int .i64 v1.f1, fzL 1 (cInt .u8) v1.f2, .int .i64 v1.f3, .bool v1.f4])], []⟩ ?_ (Nat.zero_le _) ?_
      · kernel_rfl
      refine AWp.seq ?_
      refine AWp.start [0, 1, 2, 3, 4, 5] [] [] [0, 25] 0 ⟨[(0, .rp [.str v1.f0, .int .i64 v1.f1, fzL 1 (cInt .u8) v1.f2, .int .i64 v1.f3, .bool v1.f4]), (25, .tv (.bool (v1.f0 == ([115, 116, 114, 101, 97, 109] : List UInt8))))], []⟩ rfl ?_ (Nat.zero_le _) trivial ?_
      · kernel_rfl
      refine AOps.nil ?_
      refine AWp.cond rfl (fun hb => ?_) fun hb => ?_
      · replace h := of_true h hb
        refine AWp.keepTo [0] 0 ⟨[(0, .rp [.str v1.f0, .int .i64 v1.f1, fzL 1 (cInt .u8) v1.f2, .int .i64 v1.f3, .bool v1.f4])], []⟩ ?_ (Nat.zero_le _) ?_
        · kernel_rfl
        refine AWp.seq ?_
        refine AWp.start [0, 1, 2, 3, 4, 5, 6] [] [] [2, 3] 0 ⟨[(2, .tv (.int .i64 (v1.f2.length : Int))), (3, .tv (.int .i64 (0 : Int)))], []⟩ rfl ?_ (Nat.zero_le _) trivial ?_
        · kernel_rfl
        refine AOps.nil ?_
        refine AWp.ret ?_
        cases h
        exact ⟨.inr rfl, rfl⟩
      · replace h := of_false h hb
        refine AWp.keepTo [0] 0 ⟨[(0, .rp [.str v1.f0, .int .i64 v1.f1, fzL 1 (cInt .u8) v1.f2, .int .i64 v1.f3, .bool v1.f4])], []⟩ ?_ (Nat.zero_le _) ?_
        · kernel_rfl
        refine AWp.skip ?_
        refine AWp.seq ?_
        refine AWp.draw FFm _ (n := 14) rfl (ls := #[false, false, false, false, false, false, false, false, false, false, false, false, false, false]) rfl ?_ (fun _ h => h)
        refine AAny.go (by kernel_rfl) [0, 1, 2, 3, 4, 5, 6, 7] (fuel' := 6) rfl [] #[true, true, true, true, true, true, true, true, false, false, false, false, false, false] [40, 44] 0 ⟨[(40, .tv (.str v1.f0)), (44, .tv (fzL 1 (cInt .u8) v1.f2))], []⟩ ?_ (Nat.zero_le _) trivial ?_
        · kernel_rfl
        obtain ⟨v3, hv3, h⟩ := of_bind h
        refine AAny.serial (i := 8) (fuel := 5) (by kernel_rfl) (AOne.callP (F := (FF 50 0)) _ rfl rfl rfl _ rfl rfl _ _ rfl Try.call35 [.tv (.str v1.f0), .tv (fzL 1 (cInt .u8) v1.f2)] rfl rfl (f35_ok v1.f0 v1.f2 hv3) rfl) ?_
        refine AAny.keepTo [45] 0 ⟨[(45, .tup [.tv (fzL 1 (cInt .i64) v3.1), .tv (.bool v3.2)])], []⟩ #[true, true, true, true, true, true, true, true, true, false, false, false, false, false] ?_ rfl (Nat.zero_le _) ?_
        · kernel_rfl
        refine AAny.go (by kernel_rfl) [9, 10, 11, 12, 13] (fuel' := 0) rfl [] #[true, true, true, true, true, true, true, true, true, true, true, true, true, true] [4] 0 ⟨[(4, .tv (fzL 1 (cInt .i64) v3.1))], []⟩ ?_ (Nat.zero_le _) trivial ?_
        · kernel_rfl
        refine AAny.keepTo [4] 0 ⟨[(4, .tv (fzL 1 (cInt .i64) v3.1))], []⟩ _ ?_ rfl (Nat.zero_le _) (AAny.done (by kernel_rfl) ?_)
        · kernel_rfl
        refine AWp.seq ?_
        refine AWp.start [0, 1, 2, 3] [] [] [2, 3] 0 ⟨[(2, .tv (.int .i64 (v3.1.length : Int))), (3, .tv (.int .i64 (0 : Int)))], []⟩ rfl ?_ (Nat.zero_le _) trivial ?_
        · kernel_rfl
        refine AOps.nil ?_
        refine AWp.ret ?_
        cases h
        exact ⟨.inr rfl, rfl⟩

noncomputable def f19 (v1 : T64) : Option Int :=
  (f41 v1).bind fun v2 => (cond v2 (some true) (some (v1.f0 == ([100, 105, 114, 101, 99, 116] : List UInt8)))).bind fun v3 => cond v3 (some (0 : Int)) (cond (v1.f0 == ([115, 116, 114, 101, 97, 109] : List UInt8)) (some (w64 (v1.f3 + (1 : Int)))) (if (0 : Int) ≤ v1.f3 ∧ v1.f3 ≤ (v1.f2.length : Int) then (f35 v1.f0 ((v1.f2.take (Int.toNat v1.f3)).drop 0)).bind fun v4 => some (v4.1.length : Int) else none))

theorem f19_ok (v1 : T64) {r : Int} (h : f19 v1 = some r) : ACall Try.prog 19 [.rp [.str v1.f0, .int .i64 v1.f1, fzL 1 (cInt .u8) v1.f2, .int .i64 v1.f3, .bool v1.f4]] [] (.tv (.int .i64 r)) [] := by
  refine ACall.of1 (FF 45 0) Try.func19 rfl Try.ntmps19 Try.results19 (Nat.le_of_ble_eq_true rfl) rfl rfl ?_
  refine AWp.seq ?_
  refine AWp.start [0] [] [] [0] 0 ⟨[(0, .rp [.str v1.f0, .int .i64 v1.f1, fzL 1 (cInt .u8) v1.f2, .int .i64 v1.f3, .bool v1.f4])], []⟩ rfl ?_ (Nat.zero_le _) trivial ?_
  · kernel_rfl
  refine AOps.nil ?_
  refine AWp.seq ?_
  refine AWp.block ?_
  refine AWp.seq ?_
  refine AWp.start [0] [1, 2, 3, 4, 5, 6, 7, 8, 9] [] [0, 6] 0 ⟨[(0, .rp [.str v1.f0, .int .i64 v1.f1, fzL 1 (cInt .u8) v1.f2, .int .i64 v1.f3, .bool v1.f4]), (6, .rp [.str v1.f0, .int .i64 v1.f1, fzL 1 (cInt .u8) v1.f2, .int .i64 v1.f3, .bool v1.f4])], []⟩ rfl ?_ (Nat.zero_le _) trivial ?_
  · kernel_rfl
  obtain ⟨v2, hv2, h⟩ := of_bind h
  refine AOps.cons (AOne.callP (F := (FF 45 0)) _ rfl rfl rfl _ rfl rfl _ _ rfl Try.call41 [.rp [.str v1.f0, .int .i64 v1.f1, fzL 1 (cInt .u8) v1.f2, .int .i64 v1.f3, .bool v1.f4]] rfl rfl (f41_ok v1 hv2) rfl) ?_
  refine AOps.go [2] [3, 4, 5, 6, 7, 8, 9] [] [0, 8] 0 ⟨[(0, .rp [.str v1.f0, .int .i64 v1.f1, fzL 1 (cInt .u8) v1.f2, .int .i64 v1.f3, .bool v1.f4]), (8, .tv (.bool v2))], []⟩ ?_ (Nat.zero_le _) trivial ?_
  · kernel_rfl
  obtain ⟨v3, hc3, h⟩ := of_bind h
  refine AOps.cut [3, 4, 5, 6, 7, 8] [9] (fun σ => σ = ⟨[(0, .rp [.str v1.f0, .int .i64 v1.f1, fzL 1 (cInt .u8) v1.f2, .int .i64 v1.f3, .bool v1.f4]), (14, .tv (.bool v3))], []⟩) ?_ fun σ' hJ => ?_
  · refine AOps.split (fun b => ⟨[(0, .rp [.str v1.f0, .int .i64 v1.f1, fzL 1 (cInt .u8) v1.f2, .int .i64 v1.f3, .bool v1.f4]), (8, .tv (.bool b))], []⟩) _ (fun hb => ?_) fun hb => ?_
    · replace hc3 := of_true hc3 hb
      refine AOps.go [3, 4, 5, 6, 7, 8] [] [] [0, 14] 0 ⟨[(0, .rp [.str v1.f0, .int .i64 v1.f1, fzL 1 (cInt .u8) v1.f2, .int .i64 v1.f3, .bool v1.f4]), (14, .tv (.bool true))], []⟩ ?_ (Nat.zero_le _) trivial ?_
      · kernel_rfl
      cases hc3
      exact AOps.nil rfl
    · replace hc3 := of_false hc3 hb
      refine AOps.go [3, 4, 5, 6, 7, 8] [] [] [0, 14] 0 ⟨[(0, .rp [.str v1.f0, .int .i64 v1.f1, fzL 1 (cInt .u8) v1.f2, .int .i64 v1.f3, .bool v1.f4]), (14, .tv (.bool (v1.f0 == ([100, 105, 114, 101, 99, 116] : List UInt8))))], []⟩ ?_ (Nat.zero_le _) trivial ?_
      · kernel_rfl
      cases hc3
      exact AOps.nil rfl
  subst hJ
  refine AOps.go [9] [] [] [0, 5] 0 ⟨[(0, .rp [.str v1.f0, .int .i64 v1.f1, fzL 1 (cInt .u8) v1.f2, .int .i64 v1.f3, .bool v1.f4]), (5, .tv (.bool v3))], []⟩ ?_ (Nat.zero_le _) trivial ?_
  · kernel_rfl
  refine AOps.nil ?_
  refine AWp.cond rfl (fun hb => ?_) fun hb => ?_
  · replace h := of_true h hb
    refine AWp.keepTo [] 0 ⟨[], []⟩ ?_ (Nat.zero_le _) ?_
    · kernel_rfl
    refine AWp.seq ?_
    refine AWp.start [0] [] [] [2] 0 ⟨[(2, .tv (.int .i64 (0 : Int)))], []⟩ rfl ?_ (Nat.zero_le _) trivial ?_
    · kernel_rfl
    refine AOps.nil ?_
    refine AWp.ret ?_
    cases h
    exact ⟨.inr rfl, rfl⟩
  · replace h := of_false h hb
    refine AWp.keepTo [0] 0 ⟨[(0, .rp [.str v1.f0, .int .i64 v1.f1, fzL 1 (cInt .u8) v1.f2, .int .i64 v1.f3, .bool v1.f4])], []⟩ ?_ (Nat.zero_le _) ?_
    · kernel_rfl
    refine AWp.seq ?_
    refine AWp.start [0, 1, 2, 3, 4, 5] [] [] [0, 15] 0 ⟨[(0, .rp [.str v1.f0, .int .i64 v1.f1, fzL 1 (cInt .u8) v1.f2, .int .i64 v1.f3, .bool v1.f4]), (15, .tv (.bool (v1.f0 == ([115, 116, 114, 101, 97, 109] : List UInt8))))], []⟩ rfl ?_ (Nat.zero_le _) trivial ?_
    · kernel_rfl
    refine AOps.nil ?_
    refine AWp.cond rfl (fun hb => ?_) fun hb => ?_
    · replace h := of_true h hb
      refine AWp.keepTo [0] 0 ⟨[(0, .rp [.str v1.f0, .int .i64 v1.f1, fzL 1 (cInt .u8) v1.f2, .int .i64 v1.f3, .bool v1.f4])], []⟩ ?_ (Nat.zero_le _) ?_
      · kernel_rfl
      refine AWp.seq ?_
      refine AWp.start [0, 1, 2, 3, 4, 5] [] [] [2] 0 ⟨[(2, .tv (.int .i64 (w64 (v1.f3 + (1 : Int)))))], []⟩ rfl ?_ (Nat.zero_le _) trivial ?_
      · kernel_rfl
      refine AOps.nil ?_
      refine AWp.ret ?_
      cases h
      exact ⟨.inr rfl, rfl⟩
    · replace h := of_false h hb
      refine AWp.keepTo [0] 0 ⟨[(0, .rp [.str v1.f0, .int .i64 v1.f1, fzL 1 (cInt .u8) v1.f2, .int .i64 v1.f3, .bool v1.f4])], []⟩ ?_ (Nat.zero_le _) ?_
      · kernel_rfl
      refine AWp.skip ?_
      refine AWp.seq ?_
      refine AWp.draw FFm _ (n := 19) rfl (ls := #[false, false, false, false, false, false, false, false, false, false, false, false, false, false, false, false, false, false, false]) rfl ?_ (fun _ h => h)
      obtain ⟨hg, h⟩ := of_guard h
      refine AAny.go (by kernel_rfl) [0, 1, 2, 3, 4, 5, 6, 7, 8, 9, 10, 11, 12] (fuel' := 6) rfl [(0 : Int) ≤ (0 : Int), (0 : Int) ≤ v1.f3, v1.f3 ≤ (v1.f2.length : Int)] #[true, true, true, true, true, true, true, true, true, true, true, true, true, false, false, false, false, false, false] [30, 39] 0 ⟨[(30, .tv (.str v1.f0)), (39, .tv (.fz 1 ((Int.toNat v1.f3) - 0) (fun i => (cInt .u8) (v1.f2.getD (0 + i) default))))], []⟩ ?_ (Nat.zero_le _) ⟨(by decide : (0 : Int) ≤ (0 : Int)), hg.1, hg.2⟩ ?_
      · kernel_rfl
      have hb : (Int.toNat v1.f3) ≤ v1.f2.length := by have hh : v1.f3 ≤ (v1.f2.length : Int) := hg.2; omega
      refine AAny.extFzL (s := 39) rfl (sub_len v1.f2 0 (Int.toNat v1.f3) hb) (sub_at (cInt .u8) v1.f2 0 (Int.toNat v1.f3) hb) ?_
      obtain ⟨v4, hv4, h⟩ := of_bind h
      refine AAny.serial (i := 13) (fuel := 5) (by kernel_rfl) (AOne.callP (F := (FF 45 0)) _ rfl rfl rfl _ rfl rfl _ _ rfl Try.call35 [.tv (.str v1.f0), .tv (fzL 1 (cInt .u8) ((v1.f2.take (Int.toNat v1.f3)).drop 0))] rfl rfl (f35_ok v1.f0 ((v1.f2.take (Int.toNat v1.f3)).drop 0) hv4) rfl) ?_
      refine AAny.keepTo [40] 0 ⟨[(40, .tup [.tv (fzL 1 (cInt .i64) v4.1), .tv (.bool v4.2)])], []⟩ #[true, true, true, true, true, true, true, true, true, true, true, true, true, true, false, false, false, false, false] ?_ rfl (Nat.zero_le _) ?_
      · kernel_rfl
      refine AAny.go (by kernel_rfl) [14, 15, 16, 17, 18] (fuel' := 0) rfl [] #[true, true, true, true, true, true, true, true, true, true, true, true, true, true, true, true, true, true, true] [3] 0 ⟨[(3, .tv (fzL 1 (cInt .i64) v4.1))], []⟩ ?_ (Nat.zero_le _) trivial ?_
      · kernel_rfl
      refine AAny.keepTo [3] 0 ⟨[(3, .tv (fzL 1 (cInt .i64) v4.1))], []⟩ _ ?_ rfl (Nat.zero_le _) (AAny.done (by kernel_rfl) ?_)
      · kernel_rfl
      refine AWp.seq ?_
      refine AWp.start [0, 1, 2] [] [] [2] 0 ⟨[(2, .tv (.int .i64 (v4.1.length : Int)))], []⟩ rfl ?_ (Nat.zero_le _) trivial ?_
      · kernel_rfl
      refine AOps.nil ?_
      refine AWp.ret ?_
      cases h
      exact ⟨.inr rfl, rfl⟩

noncomputable def f20o (v1 : T64) : Option (Int × T64) :=
  (f41 v1).bind fun v2 => cond v2 (some ((7 : Int), v1)) (some ((0 : Int), T64.mk v1.f0 v1.f1 v1.f2 (0 : Int) false))

theorem f20o_ok (v1 : T64) {r : Int × T64} (h : f20o v1 = some r) : ACall Try.prog 20 [.pc 0 0] [.cells 65 [.str v1.f0, .int .i64 v1.f1, fzL 1 (cInt .u8) v1.f2, .int .i64 v1.f3, .bool v1.f4]] (.tv (.int .i64 r.1)) [.cells 65 [.str r.2.f0, .int .i64 r.2.f1, fzL 1 (cInt .u8) r.2.f2, .int .i64 r.2.f3, .bool r.2.f4]] := by
  refine ACall.of1 (FF 11 1) Try.func20 rfl Try.ntmps20 Try.results20 (Nat.le_of_ble_eq_true rfl) rfl rfl ?_
  refine AWp.seq ?_
  refine AWp.start [0] [] [] [0] 1 ⟨[(0, .pc 0 0)], [.cells 65 [.str v1.f0, .int .i64 v1.f1, fzL 1 (cInt .u8) v1.f2, .int .i64 v1.f3, .bool v1.f4]]⟩ rfl ?_ (Nat.le_of_ble_eq_true rfl) trivial ?_
  · kernel_rfl
  refine AOps.nil ?_
  refine AWp.seq ?_
  refine AWp.seq ?_
  refine AWp.start [0] [1] [] [0, 3] 1 ⟨[(0, .pc 0 0), (3, .pc 0 0)], [.cells 65 [.str v1.f0, .int .i64 v1.f1, fzL 1 (cInt .u8) v1.f2, .int .i64 v1.f3, .bool v1.f4]]⟩ rfl ?_ (Nat.le_of_ble_eq_true rfl) trivial ?_
  · kernel_rfl
  obtain ⟨v2, hv2, h⟩ := of_bind h
  refine AOps.cons (AOne.callR (F := (FF 11 1)) _ rfl rfl rfl _ rfl rfl _ _ rfl Try.call41 [] [.rp [.str v1.f0, .int .i64 v1.f1, fzL 1 (cInt .u8) v1.f2, .int .i64 v1.f3, .bool v1.f4]] rfl trivial (f41_ok v1 hv2) (ind_of rfl) rfl) ?_
  refine AOps.keepTo [0, 4] 1 ⟨[(0, .pc 0 0), (4, .tv (.bool v2))], [.cells 65 [.str v1.f0, .int .i64 v1.f1, fzL 1 (cInt .u8) v1.f2, .int .i64 v1.f3, .bool v1.f4]]⟩ ?_ (Nat.le_of_ble_eq_true rfl) ?_
  · kernel_rfl
  refine AOps.nil ?_
  refine AWp.cond rfl (fun hb => ?_) fun hb => ?_
  · replace h := of_true h hb
    refine AWp.keepTo [] 1 ⟨[], [.cells 65 [.str v1.f0, .int .i64 v1.f1, fzL 1 (cInt .u8) v1.f2, .int .i64 v1.f3, .bool v1.f4]]⟩ ?_ (Nat.le_of_ble_eq_true rfl) ?_
    · kernel_rfl
    refine AWp.seq ?_
    refine AWp.start [0] [] [] [2] 1 ⟨[(2, .tv (.int .i64 (7 : Int)))], [.cells 65 [.str v1.f0, .int .i64 v1.f1, fzL 1 (cInt .u8) v1.f2, .int .i64 v1.f3, .bool v1.f4]]⟩ rfl ?_ (Nat.le_of_ble_eq_true rfl) trivial ?_
    · kernel_rfl
    refine AOps.nil ?_
    refine AWp.ret ?_
    cases h
    exact ⟨.inr rfl, rfl⟩
  · replace h := of_false h hb
    refine AWp.keepTo [0] 1 ⟨[(0, .pc 0 0)], [.cells 65 [.str v1.f0, .int .i64 v1.f1, fzL 1 (cInt .u8) v1.f2, .int .i64 v1.f3, .bool v1.f4]]⟩ ?_ (Nat.le_of_ble_eq_true rfl) ?_
    · kernel_rfl
    refine AWp.skip ?_
    refine AWp.seq ?_
    refine AWp.start [0, 1, 2, 3, 4, 5, 6, 7] [] [] [] 1 ⟨[], [.cells 65 [.str v1.f0, .int .i64 v1.f1, fzL 1 (cInt .u8) v1.f2, .int .i64 (0 : Int), .bool false]]⟩ rfl ?_ (Nat.le_of_ble_eq_true rfl) trivial ?_
    · kernel_rfl
    refine AOps.nil ?_
    refine AWp.seq ?_
    refine AWp.start [0] [] [] [2] 1 ⟨[(2, .tv (.int .i64 (0 : Int)))], [.cells 65 [.str v1.f0, .int .i64 v1.f1, fzL 1 (cInt .u8) v1.f2, .int .i64 (0 : Int), .bool false]]⟩ rfl ?_ (Nat.le_of_ble_eq_true rfl) trivial ?_
    · kernel_rfl
    refine AOps.nil ?_
    refine AWp.ret ?_
    cases h
    exact ⟨.inr rfl, rfl⟩

noncomputable def f23o_j1 (v1 : T64) (v4 : Int) : Option (Int × T64) :=
  some ((0 : Int), T64.mk v1.f0 v1.f1 v1.f2 v4 v1.f4)

noncomputable def f23o (v1 : T64) : Option (Int × T64) :=
  (f41 v1).bind fun v2 => cond v2 (some ((7 : Int), v1)) ((f42 v1).bind fun v3 => cond (!v3) (some ((110 : Int), v1)) (cond v1.f4 (some ((0 : Int), T64.mk v1.f0 v1.f1 v1.f2 v1.f3 false)) (if (0 : Int) ≤ v1.f3 ∧ v1.f3 ≤ (v1.f2.length : Int) then (f35 v1.f0 ((v1.f2.take (Int.toNat v1.f3)).drop 0)).bind fun v5 => cond (decide ((v5.1.length : Int) > (0 : Int))) (if (0 : Int) ≤ w64 ((v5.1.length : Int) - (1 : Int)) ∧ w64 ((v5.1.length : Int) - (1 : Int)) < (v5.1.length : Int) then f23o_j1 v1 (v5.1.getD (Int.toNat (w64 ((v5.1.length : Int) - (1 : Int)))) default) else none) (f23o_j1 v1 v1.f3) else none)))

theorem f23o_ok (v1 : T64) {r : Int × T64} (h : f23o v1 = some r) : ACall Try.prog 23 [.pc 0 0] [.cells 65 [.str v1.f0, .int .i64 v1.f1, fzL 1 (cInt .u8) v1.f2, .int .i64 v1.f3, .bool v1.f4]] (.tv (.int .i64 r.1)) [.cells 65 [.str r.2.f0, .int .i64 r.2.f1, fzL 1 (cInt .u8) r.2.f2, .int .i64 r.2.f3, .bool r.2.f4]] := by
  refine ACall.of1 (FF 49 1) Try.func23 rfl Try.ntmps23 Try.results23 (Nat.le_of_ble_eq_true rfl) rfl rfl ?_
  refine AWp.seq ?_
  refine AWp.start [0] [] [] [0] 1 ⟨[(0, .pc 0 0)], [.cells 65 [.str v1.f0, .int .i64 v1.f1, fzL 1 (cInt .u8) v1.f2, .int .i64 v1.f3, .bool v1.f4]]⟩ rfl ?_ (Nat.le_of_ble_eq_true rfl) trivial ?_
  · kernel_rfl
  refine AOps.nil ?_
  refine AWp.seq ?_
  refine AWp.block ?_
  refine AWp.seq ?_
  refine AWp.start [0] [1, 2] [] [0, 6] 1 ⟨[(0, .pc 0 0), (6, .pc 0 0)], [.cells 65 [.str v1.f0, .int .i64 v1.f1, fzL 1 (cInt .u8) v1.f2, .int .i64 v1.f3, .bool v1.f4]]⟩ rfl ?_ (Nat.le_of_ble_eq_true rfl) trivial ?_
  · kernel_rfl
  obtain ⟨v2, hv2, h⟩ := of_bind h
  refine AOps.cons (AOne.callR (F := (FF 49 1)) _ rfl rfl rfl _ rfl rfl _ _ rfl Try.call41 [] [.rp [.str v1.f0, .int .i64 v1.f1, fzL 1 (cInt .u8) v1.f2, .int .i64 v1.f3, .bool v1.f4]] rfl trivial (f41_ok v1 hv2) (ind_of rfl) rfl) ?_
  refine AOps.go [2] [] [] [0, 5] 1 ⟨[(0, .pc 0 0), (5, .tv (.bool v2))], [.cells 65 [.str v1.f0, .int .i64 v1.f1, fzL 1 (cInt .u8) v1.f2, .int .i64 v1.f3, .bool v1.f4]]⟩ ?_ (Nat.le_of_ble_eq_true rfl) trivial ?_
  · kernel_rfl
  refine AOps.nil ?_
  refine AWp.cond rfl (fun hb => ?_) fun hb => ?_
  · replace h := of_true h hb
    refine AWp.keepTo [] 1 ⟨[], [.cells 65 [.str v1.f0, .int .i64 v1.f1, fzL 1 (cInt .u8) v1.f2, .int .i64 v1.f3, .bool v1.f4]]⟩ ?_ (Nat.le_of_ble_eq_true rfl) ?_
    · kernel_rfl
    refine AWp.seq ?_
    refine AWp.start [0] [] [] [2] 1 ⟨[(2, .tv (.int .i64 (7 : Int)))], [.cells 65 [.str v1.f0, .int .i64 v1.f1, fzL 1 (cInt .u8) v1.f2, .int .i64 v1.f3, .bool v1.f4]]⟩ rfl ?_ (Nat.le_of_ble_eq_true rfl) trivial ?_
    · kernel_rfl
    refine AOps.nil ?_
    refine AWp.ret ?_
    cases h
    exact ⟨.inr rfl, rfl⟩
  · replace h := of_false h hb
    refine AWp.keepTo [0] 1 ⟨[(0, .pc 0 0)], [.cells 65 [.str v1.f0, .int .i64 v1.f1, fzL 1 (cInt .u8) v1.f2, .int .i64 v1.f3, .bool v1.f4]]⟩ ?_ (Nat.le_of_ble_eq_true rfl) ?_
    · kernel_rfl
    refine AWp.seq ?_
    refine AWp.start [0] [1, 2, 3] [] [0, 9] 1 ⟨[(0, .pc 0 0), (9, .pc 0 0)], [.cells 65 [.str v1.f0, .int .i64 v1.f1, fzL 1 (cInt .u8) v1.f2, .int .i64 v1.f3, .bool v1.f4]]⟩ rfl ?_ (Nat.le_of_ble_eq_true rfl) trivial ?_
    · kernel_rfl
    obtain ⟨v3, hv3, h⟩ := of_bind h
    refine AOps.cons (AOne.callR (F := (FF 49 1)) _ rfl rfl rfl _ rfl rfl _ _ rfl Try.call42 [] [.rp [.str v1.f0, .int .i64 v1.f1, fzL 1 (cInt .u8) v1.f2, .int .i64 v1.f3, .bool v1.f4]] rfl trivial (f42_ok v1 hv3) (ind_of rfl) rfl) ?_
    refine AOps.go [2, 3] [] [] [0, 8] 1 ⟨[(0, .pc 0 0), (8, .tv (.bool (!v3)))], [.cells 65 [.str v1.f0, .int .i64 v1.f1, fzL 1 (cInt .u8) v1.f2, .int .i64 v1.f3, .bool v1.f4]]⟩ ?_ (Nat.le_of_ble_eq_true rfl) trivial ?_
    · kernel_rfl
    refine AOps.nil ?_
    refine AWp.cond rfl (fun hb => ?_) fun hb => ?_
    · replace h := of_true h hb
      refine AWp.keepTo [] 1 ⟨[], [.cells 65 [.str v1.f0, .int .i64 v1.f1, fzL 1 (cInt .u8) v1.f2, .int .i64 v1.f3, .bool v1.f4]]⟩ ?_ (Nat.le_of_ble_eq_true rfl) ?_
      · kernel_rfl
      refine AWp.seq ?_
      refine AWp.start [0] [] [] [2] 1 ⟨[(2, .tv (.int .i64 (110 : Int)))], [.cells 65 [.str v1.f0, .int .i64 v1.f1, fzL 1 (cInt .u8) v1.f2, .int .i64 v1.f3, .bool v1.f4]]⟩ rfl ?_ (Nat.le_of_ble_eq_true rfl) trivial ?_
      · kernel_rfl
      refine AOps.nil ?_
      refine AWp.ret ?_
      cases h
      exact ⟨.inr rfl, rfl⟩
    · replace h := of_false h hb
      refine AWp.keepTo [0] 1 ⟨[(0, .pc 0 0)], [.cells 65 [.str v1.f0, .int .i64 v1.f1, fzL 1 (cInt .u8) v1.f2, .int .i64 v1.f3, .bool v1.f4]]⟩ ?_ (Nat.le_of_ble_eq_true rfl) ?_
      · kernel_rfl
      refine AWp.seq ?_
      refine AWp.start [0, 1, 2, 3, 4] [] [] [0, 12] 1 ⟨[(0, .pc 0 0), (12, .tv (.bool v1.f4))], [.cells 65 [.str v1.f0, .int .i64 v1.f1, fzL 1 (cInt .u8) v1.f2, .int .i64 v1.f3, .bool v1.f4]]⟩ rfl ?_ (Nat.le_of_ble_eq_true rfl) trivial ?_
      · kernel_rfl
      refine AOps.nil ?_
      refine AWp.cond rfl (fun hb => ?_) fun hb => ?_
      · replace h := of_true h hb
        refine AWp.keepTo [0] 1 ⟨[(0, .pc 0 0)], [.cells 65 [.str v1.f0, .int .i64 v1.f1, fzL 1 (cInt .u8) v1.f2, .int .i64 v1.f3, .bool v1.f4]]⟩ ?_ (Nat.le_of_ble_eq_true rfl) ?_
        · kernel_rfl
        refine AWp.seq ?_
        refine AWp.start [0, 1, 2, 3] [] [] [] 1 ⟨[], [.cells 65 [.str v1.f0, .int .i64 v1.f1, fzL 1 (cInt .u8) v1.f2, .int .i64 v1.f3, .bool false]]⟩ rfl ?_ (Nat.le_of_ble_eq_true rfl) trivial ?_
        · kernel_rfl
        refine AOps.nil ?_
        refine AWp.seq ?_
        refine AWp.start [0] [] [] [2] 1 ⟨[(2, .tv (.int .i64 (0 : Int)))], [.cells 65 [.str v1.f0, .int .i64 v1.f1, fzL 1 (cInt .u8) v1.f2, .int .i64 v1.f3, .bool false]]⟩ rfl ?_ (Nat.le_of_ble_eq_true rfl) trivial ?_
        · kernel_rfl
        refine AOps.nil ?_
        refine AWp.ret ?_
        cases h
        exact ⟨.inr rfl, rfl⟩
      · replace h := of_false h hb
        refine AWp.keepTo [0] 1 ⟨[(0, .pc 0 0)], [.cells 65 [.str v1.f0, .int .i64 v1.f1, fzL 1 (cInt .u8) v1.f2, .int .i64 v1.f3, .bool v1.f4]]⟩ ?_ (Nat.le_of_ble_eq_true rfl) ?_
        · kernel_rfl
        refine AWp.skip ?_
        refine AWp.join (V := Int) (fun w => ⟨[], [.cells 65 [.str v1.f0, .int .i64 v1.f1, fzL 1 (cInt .u8) v1.f2, .int .i64 w, .bool v1.f4]]⟩) (fun w => f23o_j1 v1 w = some r) ?_ ?_
        · refine AWp.seq ?_
          refine AWp.draw FFm _ (n := 19) rfl (ls := #[false, false, false, false, false, false, false, false, false, false, false, false, false, false, false, false, false, false, false]) rfl ?_ (fun _ h => h)
          refine AAny.go (by kernel_rfl) [0, 1, 2, 4, 5, 6, 8, 9, 10] (fuel' := 10) rfl [] #[true, true, true, false, true, true, true, false, true, true, true, false, false, false, false, false, false, false, false] [0, 23, 27, 31] 1 ⟨[(0, .pc 0 0), (23, .pc 0 0), (27, .pc 0 2), (31, .pc 0 3)], [.cells 65 [.str v1.f0, .int .i64 v1.f1, fzL 1 (cInt .u8) v1.f2, .int .i64 v1.f3, .bool v1.f4]]⟩ ?_ (Nat.le_of_ble_eq_true rfl) trivial ?_
          · kernel_rfl
          refine AAny.goR (by kernel_rfl) (i := 7) (fuel' := 9) [12, 13, 14, 15, 16, 17, 18] rfl (by kernel_rfl) (by kernel_rfl) [] #[true, true, true, false, true, true, true, true, true, true, true, false, false, false, false, false, false, false, false] rfl [0, 23, 28, 31] 1 ⟨[(0, .pc 0 0), (23, .pc 0 0), (28, .tv (fzL 1 (cInt .u8) v1.f2)), (31, .pc 0 3)], [.cells 65 [.str v1.f0, .int .i64 v1.f1, fzL 1 (cInt .u8) v1.f2, .int .i64 v1.f3, .bool v1.f4]]⟩ ?_ (Nat.le_of_ble_eq_true rfl) trivial ?_
          · kernel_rfl
          refine AAny.goR (by kernel_rfl) (i := 11) (fuel' := 8) [12, 13, 14, 15, 16, 17, 18] rfl (by kernel_rfl) (by kernel_rfl) [] #[true, true, true, false, true, true, true, true, true, true, true, true, false, false, false, false, false, false, false] rfl [0, 23, 28, 32] 1 ⟨[(0, .pc 0 0), (23, .pc 0 0), (28, .tv (fzL 1 (cInt .u8) v1.f2)), (32, .tv (.int .i64 v1.f3))], [.cells 65 [.str v1.f0, .int .i64 v1.f1, fzL 1 (cInt .u8) v1.f2, .int .i64 v1.f3, .bool v1.f4]]⟩ ?_ (Nat.le_of_ble_eq_true rfl) trivial ?_
          · kernel_rfl
          obtain ⟨hg, h⟩ := of_guard h
          refine AAny.go (by kernel_rfl) [12] (fuel' := 7) rfl [(0 : Int) ≤ (0 : Int), (0 : Int) ≤ v1.f3, v1.f3 ≤ (v1.f2.length : Int)] #[true, true, true, false, true, true, true, true, true, true, true, true, true, false, false, false, false, false, false] [0, 23, 33] 1 ⟨[(0, .pc 0 0), (23, .pc 0 0), (33, .tv (.fz 1 ((Int.toNat v1.f3) - 0) (fun i => (cInt .u8) (v1.f2.getD (0 + i) default))))], [.cells 65 [.str v1.f0, .int .i64 v1.f1, fzL 1 (cInt .u8) v1.f2, .int .i64 v1.f3, .bool v1.f4]]⟩ ?_ (Nat.le_of_ble_eq_true rfl) ⟨(by decide : (0 : Int) ≤ (0 : Int)), hg.1, hg.2⟩ ?_
          · kernel_rfl
          have hb : (Int.toNat v1.f3) ≤ v1.f2.length := by have hh : v1.f3 ≤ (v1.f2.length : Int) := hg.2; omega
          refine AAny.extFzL (s := 33) rfl (sub_len v1.f2 0 (Int.toNat v1.f3) hb) (sub_at (cInt .u8) v1.f2 0 (Int.toNat v1.f3) hb) ?_
          refine AAny.step (i := 3) (fuel' := 6) rfl (by kernel_rfl) [] #[true, true, true, true, true, true, true, true, true, true, true, true, true, false, false, false, false, false, false] rfl [0, 24, 33] 1 ⟨[(0, .pc 0 0), (24, .tv (.str v1.f0)), (33, .tv (fzL 1 (cInt .u8) ((v1.f2.take (Int.toNat v1.f3)).drop 0)))], [.cells 65 [.str v1.f0, .int .i64 v1.f1, fzL 1 (cInt .u8) v1.f2, .int .i64 v1.f3, .bool v1.f4]]⟩ ?_ (Nat.le_of_ble_eq_true rfl) trivial ?_
          · kernel_rfl
          obtain ⟨v5, hv5, h⟩ := of_bind h
          refine AAny.serial (i := 13) (fuel := 5) (by kernel_rfl) (AOne.callP (F := (FF 49 1)) _ rfl rfl rfl _ rfl rfl _ _ rfl Try.call35 [.tv (.str v1.f0), .tv (fzL 1 (cInt .u8) ((v1.f2.take (Int.toNat v1.f3)).drop 0))] rfl rfl (f35_ok v1.f0 ((v1.f2.take (Int.toNat v1.f3)).drop 0) hv5) rfl) ?_
          refine AAny.keepTo [0, 34] 1 ⟨[(0, .pc 0 0), (34, .tup [.tv (fzL 1 (cInt .i64) v5.1), .tv (.bool v5.2)])], [.cells 65 [.str v1.f0, .int .i64 v1.f1, fzL 1 (cInt .u8) v1.f2, .int .i64 v1.f3, .bool v1.f4]]⟩ #[true, true, true, true, true, true, true, true, true, true, true, true, true, true, false, false, false, false, false] ?_ rfl (Nat.le_of_ble_eq_true rfl) ?_
          · kernel_rfl
          refine AAny.go (by kernel_rfl) [14, 15, 16, 17, 18] (fuel' := 0) rfl [] #[true, true, true, true, true, true, true, true, true, true, true, true, true, true, true, true, true, true, true] [0, 3] 1 ⟨[(0, .pc 0 0), (3, .tv (fzL 1 (cInt .i64) v5.1))], [.cells 65 [.str v1.f0, .int .i64 v1.f1, fzL 1 (cInt .u8) v1.f2, .int .i64 v1.f3, .bool v1.f4]]⟩ ?_ (Nat.le_of_ble_eq_true rfl) trivial ?_
          · kernel_rfl
          refine AAny.keepTo [0, 3] 1 ⟨[(0, .pc 0 0), (3, .tv (fzL 1 (cInt .i64) v5.1))], [.cells 65 [.str v1.f0, .int .i64 v1.f1, fzL 1 (cInt .u8) v1.f2, .int .i64 v1.f3, .bool v1.f4]]⟩ _ ?_ rfl (Nat.le_of_ble_eq_true rfl) (AAny.done (by kernel_rfl) ?_)
          · kernel_rfl
          refine AWp.seq ?_
          refine AWp.start [0, 1, 2] [] [] [0, 3, 39] 1 ⟨[(0, .pc 0 0), (3, .tv (fzL 1 (cInt .i64) v5.1)), (39, .tv (.bool (decide ((v5.1.length : Int) > (0 : Int)))))], [.cells 65 [.str v1.f0, .int .i64 v1.f1, fzL 1 (cInt .u8) v1.f2, .int .i64 v1.f3, .bool v1.f4]]⟩ rfl ?_ (Nat.le_of_ble_eq_true rfl) trivial ?_
          · kernel_rfl
          refine AOps.nil ?_
          refine AWp.cond rfl (fun hb => ?_) fun hb => ?_
          · replace h := of_true h hb
            refine AWp.keepTo [0, 3] 1 ⟨[(0, .pc 0 0), (3, .tv (fzL 1 (cInt .i64) v5.1))], [.cells 65 [.str v1.f0, .int .i64 v1.f1, fzL 1 (cInt .u8) v1.f2, .int .i64 v1.f3, .bool v1.f4]]⟩ ?_ (Nat.le_of_ble_eq_true rfl) ?_
            · kernel_rfl
            obtain ⟨hg, h⟩ := of_guard h
            refine AWp.start [0, 1, 2, 3, 4, 5, 6, 7, 8, 9] [] [(0 : Int) ≤ w64 ((v5.1.length : Int) - (1 : Int)), w64 ((v5.1.length : Int) - (1 : Int)) < (v5.1.length : Int)] [] 1 ⟨[], [.cells 65 [.str v1.f0, .int .i64 v1.f1, fzL 1 (cInt .u8) v1.f2, .int .i64 (v5.1.getD (Int.toNat (w64 ((v5.1.length : Int) - (1 : Int)))) default), .bool v1.f4]]⟩ rfl ?_ (Nat.le_of_ble_eq_true rfl) ⟨hg.1, hg.2⟩ ?_
            · kernel_rfl
            refine AOps.nil ?_
            exact ⟨v5.1.getD (Int.toNat (w64 ((v5.1.length : Int) - (1 : Int)))) default, h, rfl⟩
          · replace h := of_false h hb
            refine AWp.keepTo [] 1 ⟨[], [.cells 65 [.str v1.f0, .int .i64 v1.f1, fzL 1 (cInt .u8) v1.f2, .int .i64 v1.f3, .bool v1.f4]]⟩ ?_ (Nat.le_of_ble_eq_true rfl) ?_
            · kernel_rfl
            refine AWp.skip ?_
            exact ⟨v1.f3, h, rfl⟩
        · rintro v4 h
          refine AWp.seq ?_
          refine AWp.start [0] [] [] [2] 1 ⟨[(2, .tv (.int .i64 (0 : Int)))], [.cells 65 [.str v1.f0, .int .i64 v1.f1, fzL 1 (cInt .u8) v1.f2, .int .i64 v4, .bool v1.f4]]⟩ rfl ?_ (Nat.le_of_ble_eq_true rfl) trivial ?_
          · kernel_rfl
          refine AOps.nil ?_
          refine AWp.ret ?_
          cases h
          exact ⟨.inr rfl, rfl⟩

end Go.Sx.unit
