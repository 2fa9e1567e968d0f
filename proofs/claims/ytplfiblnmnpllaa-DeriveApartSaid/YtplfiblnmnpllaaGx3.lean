/- Printed by program (wip/gen): plain functions and their walks; no condition. -/
import Derived.Test.YtplfiblnmnpllaaGx2
namespace Go.Sx.der
open Go Go.Sx Go.Proofs

noncomputable def f16_b1 (v1 : List T62) (v3 : List T37) (v5 : Int) (v6 : List UInt8) (v7 : Int) : Option ((Int × (List UInt8) × Int) ⊕ Out (Int × (List UInt8) × Int) (Int × (List UInt8))) :=
 cond (decide (v7 < (v3.length : Int))) (if (0 : Int) ≤ v7 ∧ v7 < (v3.length : Int) then cond (v6 == ([] : List UInt8)) (some (.inr (.ret ((0 : Int), ([] : List UInt8), (5 : Int))))) ((f45 v1 v6).bind fun v10 => (f44 v1 v10 ((v3.getD v7.toNat default).f0)).bind fun v11 => cond (!v11.2.2) (some (.inr (.ret ((0 : Int), ([] : List UInt8), (5 : Int))))) ((cond (decide ((v3.getD v7.toNat default).f1 < (0 : Int))) (some true) ((f46 v11.2.1).bind fun v13 => some (decide ((v3.getD v7.toNat default).f1 ≥ v13)))).bind fun v12 => cond v12 (some (.inr (.ret ((0 : Int), ([] : List UInt8), (2 : Int))))) ((f47 v1 v11.2.1).bind fun v14 => some (.inl (w64 (v5 + (w64 (v11.1 + (w64 (((v3.getD v7.toNat default).f1) * v14))))), v11.2.1.f1, w64 (v7 + (1 : Int))))))) else none) (some (.inr (.go (v5, v6))))

noncomputable def f16 (v1 : List T62) (v2 : List UInt8) (v3 : List T37) : Option (Int × (List UInt8) × Int) :=
 (f43 v1 v2).bind fun v4 => cond (v4.2 != (0 : Int)) (some ((0 : Int), ([] : List UInt8), v4.2)) ((iter (fun s => f16_b1 v1 v3 s.1 s.2.1 s.2.2) ((0 : Int), v2, (0 : Int))).bind fun y => match y with | .ret v15 => some (v15.1, v15.2.1, v15.2.2) | .go (v8, v9) => some (v8, v9, (0 : Int)))

theorem f16_ok (v1 : List T62) (v2 : List UInt8) (v3 : List T37) {r : Int × (List UInt8) × Int} (h : f16 v1 v2 v3 = some r) : ACall Try.prog 16 [.tv (fzL 6 c62 v1), .tv (.str v2), .tv (fzL 2 c37 v3)] [] (.tup [.tv (.int .i64 r.1), .tv (.str r.2.1), .tv (.int .i64 r.2.2)]) [] := by
 refine ACall.ofN (FF 74 0) (rs := [6, 7, 8]) (env := [(6, tI r.1), (7, tS r.2.1), (8, tI r.2.2)]) Try.func16 rfl Try.ntmps16 Try.results16 (by decide) (by decide) rfl (Nat.le_of_ble_eq_true rfl) rfl (get_ofN _ _ _ rfl) (ok_ofN _ rfl) ?_
 refine AWp.seq ?_
 refine AWp.start [0, 1, 2] [] [] [0, 1, 2, 6] 0 ⟨[(0, q0 v1), (1, tS v2), (2, q6 v3), (6, tI (0 : Int))], []⟩ rfl ?_ z0 trivial ?_
 · kernel_rfl
 refine AOps.nil ?_
 refine AWp.seq ?_
 refine AWp.seq ?_
 refine AWp.start [0, 1] [2, 3, 4, 5, 6, 7] [] [0, 1, 2, 6, 17, 18] 0 ⟨[(0, q0 v1), (1, tS v2), (2, q6 v3), (6, tI (0 : Int)), (17, q0 v1), (18, tS v2)], []⟩ rfl ?_ z0 trivial ?_
 · kernel_rfl
 obtain ⟨v4, hv4, h⟩ := of_bind h
 refine AOps.cons (AOne.callP (F := (FF 74 0)) _ rfl rfl rfl _ rfl rfl _ _ rfl Try.call43 [q0 v1, tS v2] rfl rfl (f43_ok v1 v2 hv4) rfl) ?_
 refine AOps.go [3, 4, 5, 6, 7] [] [] [0, 1, 2, 6, 10] 0 ⟨[(0, q0 v1), (1, tS v2), (2, q6 v3), (6, tI (0 : Int)), (10, tI v4.2)], []⟩ ?_ z0 trivial ?_
 · kernel_rfl
 refine AOps.nil ?_
 refine AWp.seq ?_
 refine AWp.start [0, 1] [] [] [0, 1, 2, 6, 10, 23] 0 ⟨[(0, q0 v1), (1, tS v2), (2, q6 v3), (6, tI (0 : Int)), (10, tI v4.2), (23, tB (v4.2 != (0 : Int)))], []⟩ rfl ?_ z0 trivial ?_
 · kernel_rfl
 refine AOps.nil ?_
 refine AWp.cond rfl (fun hb => ?_) fun hb => ?_
 · replace h := of_true h hb
   refine AWp.keepTo [10] 0 ⟨[(10, tI v4.2)], []⟩ ?_ z0 ?_
   · kernel_rfl
   refine AWp.seq ?_
   refine AWp.start [0, 1, 2, 3] [] [] [6, 7, 8] 0 ⟨[(6, tI (0 : Int)), (7, tS ([] : List UInt8)), (8, tI v4.2)], []⟩ rfl ?_ z0 trivial ?_
   · kernel_rfl
   refine AOps.nil ?_
   refine AWp.ret ?_
   cases h
   exact ⟨.inr rfl, rfl⟩
 · replace h := of_false h hb
   refine AWp.keepTo [0, 1, 2, 6] 0 ⟨[(0, q0 v1), (1, tS v2), (2, q6 v3), (6, tI (0 : Int))], []⟩ ?_ z0 ?_
   · kernel_rfl
   refine AWp.skip ?_
   refine AWp.seq ?_
   refine AWp.start [0, 1] [] [] [0, 2, 6, 7] 0 ⟨[(0, q0 v1), (2, q6 v3), (6, tI (0 : Int)), (7, tS v2)], []⟩ rfl ?_ z0 trivial ?_
   · kernel_rfl
   refine AOps.nil ?_
   refine AWp.seq ?_
   refine AWp.seq ?_
   refine AWp.start [0, 1, 2] [] [] [0, 6, 7, 26, 27, 28] 0 ⟨[(0, q0 v1), (6, tI (0 : Int)), (7, tS v2), (26, q6 v3), (27, tI (v3.length : Int)), (28, tI (0 : Int))], []⟩ rfl ?_ z0 trivial ?_
   · kernel_rfl
   refine AOps.nil ?_
   refine AWp.block ?_
   obtain ⟨y, hy, h⟩ := of_bind h
   refine AWp.mono (AWp.loop (S := Int × (List UInt8) × Int) (Y := Out (Int × (List UInt8) × Int) (Int × (List UInt8))) (fun s => ⟨[(0, q0 v1), (6, tI s.1), (7, tS s.2.1), (26, q6 v3), (27, tI (v3.length : Int)), (28, tI s.2.2)], []⟩) (fun s => f16_b1 v1 v3 s.1 s.2.1 s.2.2) (fun y e σ => match y with | .ret r => e = .ret ∧ σ = ⟨[(6, tI r.1), (7, tS r.2.1), (8, tI r.2.2)], []⟩ | .go v => e = .exit 0 ∧ σ = ⟨[(6, tI v.1), (7, tS v.2)], []⟩) ?_ hy) ?_
   · rintro ⟨v5, v6, v7⟩ o h
     refine AWp.seq ?_
     refine AWp.start [0] [] [] [0, 6, 7, 26, 27, 28, 29] 0 ⟨[(0, q0 v1), (6, tI v5), (7, tS v6), (26, q6 v3), (27, tI (v3.length : Int)), (28, tI v7), (29, tB (decide (v7 < (v3.length : Int))))], []⟩ rfl ?_ z0 trivial ?_
     · kernel_rfl
     refine AOps.nil ?_
     refine AWp.seq ?_
     refine AWp.cond rfl (fun hb => ?_) fun hb => ?_
     · replace h := of_true h hb
       refine AWp.keepTo [0, 6, 7, 26, 27, 28] 0 ⟨[(0, q0 v1), (6, tI v5), (7, tS v6), (26, q6 v3), (27, tI (v3.length : Int)), (28, tI v7)], []⟩ ?_ z0 ?_
       · kernel_rfl
       refine AWp.skip ?_
       refine AWp.seq ?_
       refine AWp.block ?_
       refine AWp.seq ?_
       obtain ⟨hg, h⟩ := of_guard h
       refine AWp.start [0, 1, 2, 3] [] [(0 : Int) ≤ v7, v7 < (v3.length : Int)] [0, 6, 7, 12, 26, 27, 28] 1 ⟨[(0, q0 v1), (6, tI v5), (7, tS v6), (12, .pc 0 0), (26, q6 v3), (27, tI (v3.length : Int)), (28, tI v7)], [.cells 38 (c37 (gD v3 v7))]⟩ rfl ?_ z0 ⟨hg.1, hg.2⟩ ?_
       · kernel_rfl
       refine AOps.nil ?_
       refine AWp.seq ?_
       refine AWp.seq ?_
       refine AWp.pin 0 rfl rfl ?_
       refine AWp.keepTo [0, 6, 7, 12, 26, 27, 28] 0 ⟨[(0, q0 v1), (6, tI v5), (7, tS v6), (12, .rp (c37 (gD v3 v7))), (26, q6 v3), (27, tI (v3.length : Int)), (28, tI v7)], []⟩ ?_ z0 ?_
       · kernel_rfl
       refine AWp.start [0, 1] [] [] [0, 6, 7, 12, 26, 27, 28, 33] 0 ⟨[(0, q0 v1), (6, tI v5), (7, tS v6), (12, .rp (c37 (gD v3 v7))), (26, q6 v3), (27, tI (v3.length : Int)), (28, tI v7), (33, tB (v6 == ([] : List UInt8)))], []⟩ rfl ?_ z0 trivial ?_
       · kernel_rfl
       refine AOps.nil ?_
       refine AWp.cond rfl (fun hb => ?_) fun hb => ?_
       · replace h := of_true h hb
         refine AWp.keepTo [] 0 ⟨[], []⟩ ?_ z0 ?_
         · kernel_rfl
         refine AWp.seq ?_
         refine AWp.start [0, 1, 2] [] [] [6, 7, 8] 0 ⟨[(6, tI (0 : Int)), (7, tS ([] : List UInt8)), (8, tI (5 : Int))], []⟩ rfl ?_ z0 trivial ?_
         · kernel_rfl
         refine AOps.nil ?_
         refine AWp.ret ?_
         cases h
         exact Or.inr ⟨_, rfl, by simp, rfl, rfl⟩
       · replace h := of_false h hb
         refine AWp.keepTo [0, 6, 7, 12, 26, 27, 28] 0 ⟨[(0, q0 v1), (6, tI v5), (7, tS v6), (12, .rp (c37 (gD v3 v7))), (26, q6 v3), (27, tI (v3.length : Int)), (28, tI v7)], []⟩ ?_ z0 ?_
         · kernel_rfl
         refine AWp.skip ?_
         refine AWp.seq ?_
         refine AWp.draw FFm _ (n := 15) rfl (ls := #[false, false, false, false, false, false, false, false, false, false, false, false, false, false, false]) rfl ?_ (fun _ h => h)
         refine AAny.go (by kernel_rfl) [0, 1, 2, 4, 5] (fuel' := 10) rfl [] #[true, true, true, false, true, true, false, false, false, false, false, false, false, false, false] [0, 6, 12, 26, 27, 28, 35, 36, 37, 40] 0 ⟨[(0, q0 v1), (6, tI v5), (12, .rp (c37 (gD v3 v7))), (26, q6 v3), (27, tI (v3.length : Int)), (28, tI v7), (35, q0 v1), (36, q0 v1), (37, tS v6), (40, tS ((gD v3 v7).f0))], []⟩ ?_ z0 trivial ?_
         · kernel_rfl
         obtain ⟨v10, hv10, h⟩ := of_bind h
         obtain ⟨v11, hv11, h⟩ := of_bind h
         refine AAny.share 0 #[true, true, true, true, true, true, true, true, true, true, true, true, true, true, true] ⟨[(0, q0 v1), (6, tI v5), (12, .rp (c37 (gD v3 v7))), (13, tI v11.1), (14, .pc 0 0), (15, tB v11.2.2), (26, q6 v3), (27, tI (v3.length : Int)), (28, tI v7)], [.cells 36 [.str v11.2.1.f0, .str v11.2.1.f1, .int .i64 v11.2.1.f2]]⟩ ?_ fun n5_ => ?_
         · refine AAny.keepTo [0, 6, 12, 13, 14, 15, 26, 27, 28] 1 ⟨[(0, q0 v1), (6, tI v5), (12, .rp (c37 (gD v3 v7))), (13, tI v11.1), (14, .pc 0 0), (15, tB v11.2.2), (26, q6 v3), (27, tI (v3.length : Int)), (28, tI v7)], [.cells 36 [.str v11.2.1.f0, .str v11.2.1.f1, .int .i64 v11.2.1.f2]]⟩ _ ?_ rfl z0 (AAny.done (by kernel_rfl) ?_)
           · kernel_rfl
           refine AWp.seq ?_
           refine AWp.pin 0 rfl rfl ?_
           refine AWp.keepTo [0, 6, 12, 13, 14, 15, 26, 27, 28] 0 ⟨[(0, q0 v1), (6, tI v5), (12, .rp (c37 (gD v3 v7))), (13, tI v11.1), (14, .rp [.str v11.2.1.f0, .str v11.2.1.f1, .int .i64 v11.2.1.f2]), (15, tB v11.2.2), (26, q6 v3), (27, tI (v3.length : Int)), (28, tI v7)], []⟩ ?_ z0 ?_
           · kernel_rfl
           refine AWp.block ?_
           refine AWp.seq ?_
           refine AWp.start [0, 1, 2] [] [] [0, 6, 12, 13, 14, 26, 27, 28, 45] 0 ⟨[(0, q0 v1), (6, tI v5), (12, .rp (c37 (gD v3 v7))), (13, tI v11.1), (14, .rp [.str v11.2.1.f0, .str v11.2.1.f1, .int .i64 v11.2.1.f2]), (26, q6 v3), (27, tI (v3.length : Int)), (28, tI v7), (45, tB (!v11.2.2))], []⟩ rfl ?_ z0 trivial ?_
           · kernel_rfl
           refine AOps.nil ?_
           refine AWp.cond rfl (fun hb => ?_) fun hb => ?_
           · replace h := of_true h hb
             refine AWp.keepTo [] 0 ⟨[], []⟩ ?_ z0 ?_
             · kernel_rfl
             refine AWp.seq ?_
             refine AWp.start [0, 1, 2] [] [] [6, 7, 8] 0 ⟨[(6, tI (0 : Int)), (7, tS ([] : List UInt8)), (8, tI (5 : Int))], []⟩ rfl ?_ z0 trivial ?_
             · kernel_rfl
             refine AOps.nil ?_
             refine AWp.ret ?_
             cases h
             exact Or.inr ⟨_, rfl, by simp, rfl, rfl⟩
           · replace h := of_false h hb
             refine AWp.keepTo [0, 6, 12, 13, 14, 26, 27, 28] 0 ⟨[(0, q0 v1), (6, tI v5), (12, .rp (c37 (gD v3 v7))), (13, tI v11.1), (14, .rp [.str v11.2.1.f0, .str v11.2.1.f1, .int .i64 v11.2.1.f2]), (26, q6 v3), (27, tI (v3.length : Int)), (28, tI v7)], []⟩ ?_ z0 ?_
             · kernel_rfl
             refine AWp.seq ?_
             obtain ⟨v12, hd, h⟩ := of_bind h
             refine AWp.draw FFm (fun σ => σ = ⟨[(0, q0 v1), (6, tI v5), (12, .rp (c37 (gD v3 v7))), (13, tI v11.1), (14, .rp [.str v11.2.1.f0, .str v11.2.1.f1, .int .i64 v11.2.1.f2]), (26, q6 v3), (27, tI (v3.length : Int)), (28, tI v7), (48, tB v12)], []⟩) (n := 11) rfl (ls := #[false, false, false, false, false, false, false, false, false, false, false]) rfl ?_ ?_
             · refine AAny.go (by kernel_rfl) [0, 1, 2, 3] (fuel' := 7) rfl [] #[true, true, true, true, false, false, false, false, false, false, false] [0, 6, 12, 13, 14, 26, 27, 28, 52] 0 ⟨[(0, q0 v1), (6, tI v5), (12, .rp (c37 (gD v3 v7))), (13, tI v11.1), (14, .rp [.str v11.2.1.f0, .str v11.2.1.f1, .int .i64 v11.2.1.f2]), (26, q6 v3), (27, tI (v3.length : Int)), (28, tI v7), (52, tB (decide ((gD v3 v7).f1 < (0 : Int))))], []⟩ ?_ z0 trivial ?_
               · kernel_rfl
               refine AAny.split (fun b => ⟨[(0, q0 v1), (6, tI v5), (12, .rp (c37 (gD v3 v7))), (13, tI v11.1), (14, .rp [.str v11.2.1.f0, .str v11.2.1.f1, .int .i64 v11.2.1.f2]), (26, q6 v3), (27, tI (v3.length : Int)), (28, tI v7), (52, tB b)], []⟩) _ (fun hb => ?_) fun hb => ?_
               · replace hd := of_true hd hb
                 refine AAny.go (by kernel_rfl) [4, 5, 6, 7, 8, 9, 10] (fuel' := 0) rfl [] #[true, true, true, true, true, true, true, true, true, true, true] [0, 6, 12, 13, 14, 26, 27, 28, 48] 0 ⟨[(0, q0 v1), (6, tI v5), (12, .rp (c37 (gD v3 v7))), (13, tI v11.1), (14, .rp [.str v11.2.1.f0, .str v11.2.1.f1, .int .i64 v11.2.1.f2]), (26, q6 v3), (27, tI (v3.length : Int)), (28, tI v7), (48, tB true)], []⟩ ?_ z0 trivial ?_
                 · kernel_rfl
                 refine AAny.keepTo [0, 6, 12, 13, 14, 26, 27, 28, 48] 0 ⟨[(0, q0 v1), (6, tI v5), (12, .rp (c37 (gD v3 v7))), (13, tI v11.1), (14, .rp [.str v11.2.1.f0, .str v11.2.1.f1, .int .i64 v11.2.1.f2]), (26, q6 v3), (27, tI (v3.length : Int)), (28, tI v7), (48, tB true)], []⟩ _ ?_ rfl z0 (AAny.done (by kernel_rfl) ?_)
                 · kernel_rfl
                 cases hd
                 exact rfl
               · replace hd := of_false hd hb
                 refine AAny.go (by kernel_rfl) [4, 5, 6] (fuel' := 4) rfl [] #[true, true, true, true, true, true, true, false, false, false, false] [0, 6, 12, 13, 14, 26, 27, 28, 52, 54, 55] 0 ⟨[(0, q0 v1), (6, tI v5), (12, .rp (c37 (gD v3 v7))), (13, tI v11.1), (14, .rp [.str v11.2.1.f0, .str v11.2.1.f1, .int .i64 v11.2.1.f2]), (26, q6 v3), (27, tI (v3.length : Int)), (28, tI v7), (52, tB false), (54, tI ((gD v3 v7).f1)), (55, .agg [.str v11.2.1.f0, .str v11.2.1.f1, .int .i64 v11.2.1.f2])], []⟩ ?_ z0 trivial ?_
                 · kernel_rfl
                 obtain ⟨v13, hv13, hd⟩ := of_bind hd
                 refine AAny.serial (i := 7) (fuel := 3) (by kernel_rfl) (AOne.callP (F := (FF 74 0)) _ rfl rfl rfl _ rfl rfl _ _ rfl Try.call46 [.agg [.str v11.2.1.f0, .str v11.2.1.f1, .int .i64 v11.2.1.f2]] rfl rfl (f46_ok v11.2.1 hv13) rfl) ?_
                 refine AAny.keepTo [0, 6, 12, 13, 14, 26, 27, 28, 52, 54, 56] 0 ⟨[(0, q0 v1), (6, tI v5), (12, .rp (c37 (gD v3 v7))), (13, tI v11.1), (14, .rp [.str v11.2.1.f0, .str v11.2.1.f1, .int .i64 v11.2.1.f2]), (26, q6 v3), (27, tI (v3.length : Int)), (28, tI v7), (52, tB false), (54, tI ((gD v3 v7).f1)), (56, tI v13)], []⟩ #[true, true, true, true, true, true, true, true, false, false, false] ?_ rfl z0 ?_
                 · kernel_rfl
                 refine AAny.go (by kernel_rfl) [8, 9, 10] (fuel' := 0) rfl [] #[true, true, true, true, true, true, true, true, true, true, true] [0, 6, 12, 13, 14, 26, 27, 28, 48] 0 ⟨[(0, q0 v1), (6, tI v5), (12, .rp (c37 (gD v3 v7))), (13, tI v11.1), (14, .rp [.str v11.2.1.f0, .str v11.2.1.f1, .int .i64 v11.2.1.f2]), (26, q6 v3), (27, tI (v3.length : Int)), (28, tI v7), (48, tB (decide ((gD v3 v7).f1 ≥ v13)))], []⟩ ?_ z0 trivial ?_
                 · kernel_rfl
                 refine AAny.keepTo [0, 6, 12, 13, 14, 26, 27, 28, 48] 0 ⟨[(0, q0 v1), (6, tI v5), (12, .rp (c37 (gD v3 v7))), (13, tI v11.1), (14, .rp [.str v11.2.1.f0, .str v11.2.1.f1, .int .i64 v11.2.1.f2]), (26, q6 v3), (27, tI (v3.length : Int)), (28, tI v7), (48, tB (decide ((gD v3 v7).f1 ≥ v13)))], []⟩ _ ?_ rfl z0 (AAny.done (by kernel_rfl) ?_)
                 · kernel_rfl
                 cases hd
                 exact rfl
             rintro σ' rfl
             refine AWp.cond rfl (fun hb => ?_) fun hb => ?_
             · replace h := of_true h hb
               refine AWp.keepTo [] 0 ⟨[], []⟩ ?_ z0 ?_
               · kernel_rfl
               refine AWp.seq ?_
               refine AWp.start [0, 1, 2] [] [] [6, 7, 8] 0 ⟨[(6, tI (0 : Int)), (7, tS ([] : List UInt8)), (8, tI (2 : Int))], []⟩ rfl ?_ z0 trivial ?_
               · kernel_rfl
               refine AOps.nil ?_
               refine AWp.ret ?_
               cases h
               exact Or.inr ⟨_, rfl, by simp, rfl, rfl⟩
             · replace h := of_false h hb
               refine AWp.keepTo [0, 6, 12, 13, 14, 26, 27, 28] 0 ⟨[(0, q0 v1), (6, tI v5), (12, .rp (c37 (gD v3 v7))), (13, tI v11.1), (14, .rp [.str v11.2.1.f0, .str v11.2.1.f1, .int .i64 v11.2.1.f2]), (26, q6 v3), (27, tI (v3.length : Int)), (28, tI v7)], []⟩ ?_ z0 ?_
               · kernel_rfl
               refine AWp.skip ?_
               refine AWp.seq ?_
               refine AWp.draw FFm _ (n := 11) rfl (ls := #[false, false, false, false, false, false, false, false, false, false, false]) rfl ?_ (fun _ h => h)
               refine AAny.go (by kernel_rfl) [0, 1, 2, 3, 4, 5] (fuel' := 5) rfl [] #[true, true, true, true, true, true, false, false, false, false, false] [0, 6, 14, 26, 27, 28, 59, 60, 62, 63, 64] 0 ⟨[(0, q0 v1), (6, tI v5), (14, .rp [.str v11.2.1.f0, .str v11.2.1.f1, .int .i64 v11.2.1.f2]), (26, q6 v3), (27, tI (v3.length : Int)), (28, tI v7), (59, tI v5), (60, tI v11.1), (62, tI ((gD v3 v7).f1)), (63, q0 v1), (64, .agg [.str v11.2.1.f0, .str v11.2.1.f1, .int .i64 v11.2.1.f2])], []⟩ ?_ z0 trivial ?_
               · kernel_rfl
               obtain ⟨v14, hv14, h⟩ := of_bind h
               refine AAny.serial (i := 6) (fuel := 4) (by kernel_rfl) (AOne.callP (F := (FF 74 0)) _ rfl rfl rfl _ rfl rfl _ _ rfl Try.call47 [q0 v1, .agg [.str v11.2.1.f0, .str v11.2.1.f1, .int .i64 v11.2.1.f2]] rfl rfl (f47_ok v1 v11.2.1 hv14) rfl) ?_
               refine AAny.keepTo [0, 6, 14, 26, 27, 28, 59, 60, 62, 65] 0 ⟨[(0, q0 v1), (6, tI v5), (14, .rp [.str v11.2.1.f0, .str v11.2.1.f1, .int .i64 v11.2.1.f2]), (26, q6 v3), (27, tI (v3.length : Int)), (28, tI v7), (59, tI v5), (60, tI v11.1), (62, tI ((gD v3 v7).f1)), (65, tI v14)], []⟩ #[true, true, true, true, true, true, true, false, false, false, false] ?_ rfl z0 ?_
               · kernel_rfl
               refine AAny.go (by kernel_rfl) [7, 8, 9, 10] (fuel' := 0) rfl [] #[true, true, true, true, true, true, true, true, true, true, true] [0, 6, 14, 26, 27, 28] 0 ⟨[(0, q0 v1), (6, tI (w64 (v5 + (w64 (v11.1 + (w64 (((gD v3 v7).f1) * v14))))))), (14, .rp [.str v11.2.1.f0, .str v11.2.1.f1, .int .i64 v11.2.1.f2]), (26, q6 v3), (27, tI (v3.length : Int)), (28, tI v7)], []⟩ ?_ z0 trivial ?_
               · kernel_rfl
               refine AAny.keepTo [0, 6, 14, 26, 27, 28] 0 ⟨[(0, q0 v1), (6, tI (w64 (v5 + (w64 (v11.1 + (w64 (((gD v3 v7).f1) * v14))))))), (14, .rp [.str v11.2.1.f0, .str v11.2.1.f1, .int .i64 v11.2.1.f2]), (26, q6 v3), (27, tI (v3.length : Int)), (28, tI v7)], []⟩ _ ?_ rfl z0 (AAny.done (by kernel_rfl) ?_)
               · kernel_rfl
               refine AWp.start [0, 1, 2] [] [] [0, 6, 7, 26, 27, 28] 0 ⟨[(0, q0 v1), (6, tI (w64 (v5 + (w64 (v11.1 + (w64 (((gD v3 v7).f1) * v14))))))), (7, tS v11.2.1.f1), (26, q6 v3), (27, tI (v3.length : Int)), (28, tI v7)], []⟩ rfl ?_ z0 trivial ?_
               · kernel_rfl
               refine AOps.nil ?_
               refine AWp.start [0, 1] [] [] [0, 6, 7, 26, 27, 28] 0 ⟨[(0, q0 v1), (6, tI (w64 (v5 + (w64 (v11.1 + (w64 (((gD v3 v7).f1) * v14))))))), (7, tS v11.2.1.f1), (26, q6 v3), (27, tI (v3.length : Int)), (28, tI (w64 (v7 + (1 : Int))))], []⟩ rfl ?_ z0 trivial ?_
               · kernel_rfl
               refine AOps.nil ?_
               cases h
               exact Or.inl ⟨_, rfl, rfl, rfl⟩
         refine AAny.share 2 #[true, true, true, true, true, true, true, true, true, true, true, true, true, false, false] ⟨[(0, q0 v1), (6, tI v5), (12, .rp (c37 (gD v3 v7))), (13, tI v11.1), (14, .pc 0 0), (26, q6 v3), (27, tI (v3.length : Int)), (28, tI v7), (43, .agg [.str v11.2.1.f0, .str v11.2.1.f1, .int .i64 v11.2.1.f2]), (44, tB v11.2.2)], [.cells 36 [.str ([] : List UInt8), .str ([] : List UInt8), .int .i64 (0 : Int)]]⟩ ?_ fun n4_ => ?_
         · refine AAny.each [13] (by kernel_rfl) rfl ?_
           refine AEach.step (i := 13) [] #[true, true, true, true, true, true, true, true, true, true, true, true, true, true, false] rfl [0, 6, 12, 13, 14, 26, 27, 28, 44] 1 ⟨[(0, q0 v1), (6, tI v5), (12, .rp (c37 (gD v3 v7))), (13, tI v11.1), (14, .pc 0 0), (26, q6 v3), (27, tI (v3.length : Int)), (28, tI v7), (44, tB v11.2.2)], [.cells 36 [.str v11.2.1.f0, .str v11.2.1.f1, .int .i64 v11.2.1.f2]]⟩ ?_ z0 trivial ?_ ?_
           · kernel_rfl
           · refine AAny.go (by kernel_rfl) [14] (fuel' := 0) rfl [] #[true, true, true, true, true, true, true, true, true, true, true, true, true, true, true] [0, 6, 12, 13, 14, 15, 26, 27, 28] 1 ⟨[(0, q0 v1), (6, tI v5), (12, .rp (c37 (gD v3 v7))), (13, tI v11.1), (14, .pc 0 0), (15, tB v11.2.2), (26, q6 v3), (27, tI (v3.length : Int)), (28, tI v7)], [.cells 36 [.str v11.2.1.f0, .str v11.2.1.f1, .int .i64 v11.2.1.f2]]⟩ ?_ z0 trivial ?_
             · kernel_rfl
             exact n5_
           exact AEach.nil
         refine AAny.share 4 #[true, true, true, true, true, true, true, true, true, true, true, false, false, false, false] ⟨[(0, q0 v1), (6, tI v5), (12, .rp (c37 (gD v3 v7))), (26, q6 v3), (27, tI (v3.length : Int)), (28, tI v7), (42, tI v11.1), (43, .agg [.str v11.2.1.f0, .str v11.2.1.f1, .int .i64 v11.2.1.f2]), (44, tB v11.2.2)], []⟩ ?_ fun n6_ => ?_
         · refine AAny.each [11] (by kernel_rfl) rfl ?_
           refine AEach.step (i := 11) [] #[true, true, true, true, true, true, true, true, true, true, true, true, false, false, false] rfl [0, 6, 12, 14, 26, 27, 28, 42, 43, 44] 1 ⟨[(0, q0 v1), (6, tI v5), (12, .rp (c37 (gD v3 v7))), (14, .pc 0 0), (26, q6 v3), (27, tI (v3.length : Int)), (28, tI v7), (42, tI v11.1), (43, .agg [.str v11.2.1.f0, .str v11.2.1.f1, .int .i64 v11.2.1.f2]), (44, tB v11.2.2)], [.cells 36 [.str ([] : List UInt8), .str ([] : List UInt8), .int .i64 (0 : Int)]]⟩ ?_ z0 trivial ?_ ?_
           · kernel_rfl
           · refine AAny.go (by kernel_rfl) [12] (fuel' := 2) rfl [] #[true, true, true, true, true, true, true, true, true, true, true, true, true, false, false] [0, 6, 12, 13, 14, 26, 27, 28, 43, 44] 1 ⟨[(0, q0 v1), (6, tI v5), (12, .rp (c37 (gD v3 v7))), (13, tI v11.1), (14, .pc 0 0), (26, q6 v3), (27, tI (v3.length : Int)), (28, tI v7), (43, .agg [.str v11.2.1.f0, .str v11.2.1.f1, .int .i64 v11.2.1.f2]), (44, tB v11.2.2)], [.cells 36 [.str ([] : List UInt8), .str ([] : List UInt8), .int .i64 (0 : Int)]]⟩ ?_ z0 trivial ?_
             · kernel_rfl
             exact n4_
           exact AEach.nil
         refine AAny.share 8 #[true, true, true, true, true, true, false, false, false, false, false, true, false, false, false] ⟨[(0, q0 v1), (6, tI v5), (12, .rp (c37 (gD v3 v7))), (14, .pc 0 0), (26, q6 v3), (27, tI (v3.length : Int)), (28, tI v7), (35, q0 v1), (38, tI v10), (40, tS ((gD v3 v7).f0))], [.cells 36 [.str ([] : List UInt8), .str ([] : List UInt8), .int .i64 (0 : Int)]]⟩ ?_ fun n3_ => ?_
         · refine AAny.each [6] (by kernel_rfl) rfl ?_
           refine AEach.one (i := 6) (AOne.callP (F := (FF 74 0)) _ rfl rfl rfl _ rfl rfl _ _ rfl Try.call44 [q0 v1, tI v10, tS ((gD v3 v7).f0)] rfl rfl (f44_ok v1 v10 ((gD v3 v7).f0) hv11) rfl) ?_ ?_
           · refine AAny.keepTo [0, 6, 12, 14, 26, 27, 28, 41] 1 ⟨[(0, q0 v1), (6, tI v5), (12, .rp (c37 (gD v3 v7))), (14, .pc 0 0), (26, q6 v3), (27, tI (v3.length : Int)), (28, tI v7), (41, .tup [tI v11.1, .agg [.str v11.2.1.f0, .str v11.2.1.f1, .int .i64 v11.2.1.f2], tB v11.2.2])], [.cells 36 [.str ([] : List UInt8), .str ([] : List UInt8), .int .i64 (0 : Int)]]⟩ #[true, true, true, true, true, true, true, false, false, false, false, true, false, false, false] ?_ rfl z0 ?_
             · kernel_rfl
             refine AAny.go (by kernel_rfl) [7, 8, 9, 10, 12] (fuel' := 2) rfl [] #[true, true, true, true, true, true, true, true, true, true, true, true, true, false, false] [0, 6, 12, 13, 14, 26, 27, 28, 43, 44] 1 ⟨[(0, q0 v1), (6, tI v5), (12, .rp (c37 (gD v3 v7))), (13, tI v11.1), (14, .pc 0 0), (26, q6 v3), (27, tI (v3.length : Int)), (28, tI v7), (43, .agg [.str v11.2.1.f0, .str v11.2.1.f1, .int .i64 v11.2.1.f2]), (44, tB v11.2.2)], [.cells 36 [.str ([] : List UInt8), .str ([] : List UInt8), .int .i64 (0 : Int)]]⟩ ?_ z0 trivial ?_
             · kernel_rfl
             exact n4_
           exact AEach.nil
         refine AAny.share 9 #[true, true, true, false, true, true, false, false, false, false, false, true, false, false, false] ⟨[(0, q0 v1), (6, tI v5), (12, .rp (c37 (gD v3 v7))), (14, .pc 0 0), (26, q6 v3), (27, tI (v3.length : Int)), (28, tI v7), (35, q0 v1), (36, q0 v1), (37, tS v6), (40, tS ((gD v3 v7).f0))], [.cells 36 [.str ([] : List UInt8), .str ([] : List UInt8), .int .i64 (0 : Int)]]⟩ ?_ fun n2_ => ?_
         · refine AAny.each [3] (by kernel_rfl) rfl ?_
           refine AEach.one (i := 3) (AOne.callP (F := (FF 74 0)) _ rfl rfl rfl _ rfl rfl _ _ rfl Try.call45 [q0 v1, tS v6] rfl rfl (f45_ok v1 v6 hv10) rfl) ?_ ?_
           · refine AAny.keepTo [0, 6, 12, 14, 26, 27, 28, 35, 38, 40] 1 ⟨[(0, q0 v1), (6, tI v5), (12, .rp (c37 (gD v3 v7))), (14, .pc 0 0), (26, q6 v3), (27, tI (v3.length : Int)), (28, tI v7), (35, q0 v1), (38, tI v10), (40, tS ((gD v3 v7).f0))], [.cells 36 [.str ([] : List UInt8), .str ([] : List UInt8), .int .i64 (0 : Int)]]⟩ #[true, true, true, true, true, true, false, false, false, false, false, true, false, false, false] ?_ rfl z0 ?_
             · kernel_rfl
             exact n3_
           exact AEach.nil
         refine AAny.share 9 #[true, true, true, true, true, true, false, false, false, false, false, false, false, false, false] ⟨[(0, q0 v1), (6, tI v5), (12, .rp (c37 (gD v3 v7))), (26, q6 v3), (27, tI (v3.length : Int)), (28, tI v7), (35, q0 v1), (38, tI v10), (40, tS ((gD v3 v7).f0))], []⟩ ?_ fun n1_ => ?_
         · refine AAny.each [6, 11] (by kernel_rfl) rfl ?_
           refine AEach.one (i := 6) (AOne.callP (F := (FF 74 0)) _ rfl rfl rfl _ rfl rfl _ _ rfl Try.call44 [q0 v1, tI v10, tS ((gD v3 v7).f0)] rfl rfl (f44_ok v1 v10 ((gD v3 v7).f0) hv11) rfl) ?_ ?_
           · refine AAny.keepTo [0, 6, 12, 26, 27, 28, 41] 0 ⟨[(0, q0 v1), (6, tI v5), (12, .rp (c37 (gD v3 v7))), (26, q6 v3), (27, tI (v3.length : Int)), (28, tI v7), (41, .tup [tI v11.1, .agg [.str v11.2.1.f0, .str v11.2.1.f1, .int .i64 v11.2.1.f2], tB v11.2.2])], []⟩ #[true, true, true, true, true, true, true, false, false, false, false, false, false, false, false] ?_ rfl z0 ?_
             · kernel_rfl
             refine AAny.go (by kernel_rfl) [7, 8, 9, 10] (fuel' := 4) rfl [] #[true, true, true, true, true, true, true, true, true, true, true, false, false, false, false] [0, 6, 12, 26, 27, 28, 42, 43, 44] 0 ⟨[(0, q0 v1), (6, tI v5), (12, .rp (c37 (gD v3 v7))), (26, q6 v3), (27, tI (v3.length : Int)), (28, tI v7), (42, tI v11.1), (43, .agg [.str v11.2.1.f0, .str v11.2.1.f1, .int .i64 v11.2.1.f2]), (44, tB v11.2.2)], []⟩ ?_ z0 trivial ?_
             · kernel_rfl
             exact n6_
           refine AEach.step (i := 11) [] #[true, true, true, true, true, true, false, false, false, false, false, true, false, false, false] rfl [0, 6, 12, 14, 26, 27, 28, 35, 38, 40] 1 ⟨[(0, q0 v1), (6, tI v5), (12, .rp (c37 (gD v3 v7))), (14, .pc 0 0), (26, q6 v3), (27, tI (v3.length : Int)), (28, tI v7), (35, q0 v1), (38, tI v10), (40, tS ((gD v3 v7).f0))], [.cells 36 [.str ([] : List UInt8), .str ([] : List UInt8), .int .i64 (0 : Int)]]⟩ ?_ z0 trivial ?_ ?_
           · kernel_rfl
           · exact n3_
           exact AEach.nil
         refine AAny.each [3, 11] (by kernel_rfl) rfl ?_
         refine AEach.one (i := 3) (AOne.callP (F := (FF 74 0)) _ rfl rfl rfl _ rfl rfl _ _ rfl Try.call45 [q0 v1, tS v6] rfl rfl (f45_ok v1 v6 hv10) rfl) ?_ ?_
         · refine AAny.keepTo [0, 6, 12, 26, 27, 28, 35, 38, 40] 0 ⟨[(0, q0 v1), (6, tI v5), (12, .rp (c37 (gD v3 v7))), (26, q6 v3), (27, tI (v3.length : Int)), (28, tI v7), (35, q0 v1), (38, tI v10), (40, tS ((gD v3 v7).f0))], []⟩ #[true, true, true, true, true, true, false, false, false, false, false, false, false, false, false] ?_ rfl z0 ?_
           · kernel_rfl
           exact n1_
         refine AEach.step (i := 11) [] #[true, true, true, false, true, true, false, false, false, false, false, true, false, false, false] rfl [0, 6, 12, 14, 26, 27, 28, 35, 36, 37, 40] 1 ⟨[(0, q0 v1), (6, tI v5), (12, .rp (c37 (gD v3 v7))), (14, .pc 0 0), (26, q6 v3), (27, tI (v3.length : Int)), (28, tI v7), (35, q0 v1), (36, q0 v1), (37, tS v6), (40, tS ((gD v3 v7).f0))], [.cells 36 [.str ([] : List UInt8), .str ([] : List UInt8), .int .i64 (0 : Int)]]⟩ ?_ z0 trivial ?_ ?_
         · kernel_rfl
         · exact n2_
         exact AEach.nil
     · replace h := of_false h hb
       refine AWp.keepTo [6, 7] 0 ⟨[(6, tI v5), (7, tS v6)], []⟩ ?_ z0 ?_
       · kernel_rfl
       refine AWp.exit ?_
       cases h
       exact Or.inr ⟨_, rfl, by simp, rfl, rfl⟩
   · intro e σ hp
     rcases y with v15 | ⟨v8, v9⟩
     · obtain ⟨rfl, rfl⟩ := hp
       cases h
       exact ⟨.inr rfl, rfl⟩
     · obtain ⟨rfl, rfl⟩ := hp
       refine AWp.seq ?_
       refine AWp.start [0, 1, 2, 3, 4] [] [] [6, 7, 8] 0 ⟨[(6, tI v8), (7, tS v9), (8, tI (0 : Int))], []⟩ rfl ?_ z0 trivial ?_
       · kernel_rfl
       refine AOps.nil ?_
       refine AWp.ret ?_
       cases h
       exact ⟨.inr rfl, rfl⟩

noncomputable def f13  : Option Bool :=
 (f19 ([T62.mk ([97] : List UInt8) ([] : List UInt8) false ([T35.mk ([120] : List UInt8) ([] : List UInt8) (0 : Int)]) ([] : List T94) ([] : List UInt8), T62.mk ([98] : List UInt8) ([97] : List UInt8) false ([T35.mk ([121] : List UInt8) ([97] : List UInt8) (2 : Int)]) ([] : List T94) ([] : List UInt8)]) ([98] : List UInt8)).bind fun v1 => (f16 ([T62.mk ([97] : List UInt8) ([] : List UInt8) false ([T35.mk ([120] : List UInt8) ([] : List UInt8) (0 : Int)]) ([] : List T94) ([] : List UInt8), T62.mk ([98] : List UInt8) ([97] : List UInt8) false ([T35.mk ([121] : List UInt8) ([97] : List UInt8) (2 : Int)]) ([] : List T94) ([] : List UInt8)]) ([98] : List UInt8) ([T37.mk ([120] : List UInt8) (0 : Int)])).bind fun v2 => (cond (v1.1 == (3 : Int)) (some (v1.2 == (0 : Int))) (some false)).bind fun v3 => (cond v3 (some (v2.1 == (0 : Int))) (some false)).bind fun v4 => (cond v4 (some (v2.2.2 == (0 : Int))) (some false)).bind fun v5 => some v5

theorem f13_ok  {r : Bool} (h : f13  = some r) : ACall Try.prog 13 [] [] (.tv (.bool r)) [] := by
 refine ACall.of1 (FF 41 0) Try.func13 rfl Try.ntmps13 Try.results13 (Nat.le_of_ble_eq_true rfl) rfl rfl ?_
 refine AWp.seq ?_
 refine AWp.start [0] [] [] [] 0 ⟨[], []⟩ rfl ?_ z0 trivial ?_
 · kernel_rfl
 refine AOps.nil ?_
 refine AWp.seq ?_
 refine AWp.start [0, 1] [2, 3, 4, 5, 6, 7] [] [8] 0 ⟨[(8, .tv (.own 3 36 1 (newRowF [.str ([120] : List UInt8), .str ([] : List UInt8), .int .i64 (0 : Int)] 3)))], []⟩ rfl ?_ z0 trivial ?_
 · kernel_rfl
 refine AOps.extL 8 c35 ([T35.mk ([120] : List UInt8) ([] : List UInt8) (0 : Int)]) rfl rfl (row_at c35 3 (fun _ => rfl) [T35.mk ([120] : List UInt8) ([] : List UInt8) (0 : Int)] _ rfl) ?_
 refine AOps.freezeL 8 c35 ([T35.mk ([120] : List UInt8) ([] : List UInt8) (0 : Int)]) rfl (fun _ => rfl) ?_
 refine AOps.go [2, 3, 4] [5, 6, 7] [] [9, 11] 0 ⟨[(9, .agg [.str ([97] : List UInt8), .str ([] : List UInt8), .bool false, fzL 3 c35 ([T35.mk ([120] : List UInt8) ([] : List UInt8) (0 : Int)]), .sc (.slice none 0 0), .str ([] : List UInt8)]), (11, .tv (.own 3 36 1 (newRowF [.str ([121] : List UInt8), .str ([97] : List UInt8), .int .i64 (2 : Int)] 3)))], []⟩ ?_ z0 trivial ?_
 · kernel_rfl
 refine AOps.extL 11 c35 ([T35.mk ([121] : List UInt8) ([97] : List UInt8) (2 : Int)]) rfl rfl (row_at c35 3 (fun _ => rfl) [T35.mk ([121] : List UInt8) ([97] : List UInt8) (2 : Int)] _ rfl) ?_
 refine AOps.freezeL 11 c35 ([T35.mk ([121] : List UInt8) ([97] : List UInt8) (2 : Int)]) rfl (fun _ => rfl) ?_
 refine AOps.go [5, 6] [7] [] [13] 0 ⟨[(13, .tv (.own 6 63 2 (newRowF [.str ([97] : List UInt8), .str ([] : List UInt8), .bool false, fzL 3 c35 ([T35.mk ([120] : List UInt8) ([] : List UInt8) (0 : Int)]), .sc (.slice none 0 0), .str ([] : List UInt8), .str ([98] : List UInt8), .str ([97] : List UInt8), .bool false, fzL 3 c35 ([T35.mk ([121] : List UInt8) ([97] : List UInt8) (2 : Int)]), .sc (.slice none 0 0), .str ([] : List UInt8)] 6)))], []⟩ ?_ z0 trivial ?_
 · kernel_rfl
 refine AOps.nilRow 13 (cs' := [.str ([97] : List UInt8), .str ([] : List UInt8), .bool false, fzL 3 c35 ([T35.mk ([120] : List UInt8) ([] : List UInt8) (0 : Int)]), fzL 2 c94 ([] : List T94), .str ([] : List UInt8), .str ([98] : List UInt8), .str ([97] : List UInt8), .bool false, fzL 3 c35 ([T35.mk ([121] : List UInt8) ([97] : List UInt8) (2 : Int)]), fzL 2 c94 ([] : List T94), .str ([] : List UInt8)]) rfl (.keep (.keep (.keep (.keep (.nil (.keep (.keep (.keep (.keep (.keep (.nil (.keep .done)))))))))))) ?_
 refine AOps.extL 13 c62 ([T62.mk ([97] : List UInt8) ([] : List UInt8) false ([T35.mk ([120] : List UInt8) ([] : List UInt8) (0 : Int)]) ([] : List T94) ([] : List UInt8), T62.mk ([98] : List UInt8) ([97] : List UInt8) false ([T35.mk ([121] : List UInt8) ([97] : List UInt8) (2 : Int)]) ([] : List T94) ([] : List UInt8)]) rfl rfl (row_at c62 6 (fun _ => rfl) [T62.mk ([97] : List UInt8) ([] : List UInt8) false ([T35.mk ([120] : List UInt8) ([] : List UInt8) (0 : Int)]) ([] : List T94) ([] : List UInt8), T62.mk ([98] : List UInt8) ([97] : List UInt8) false ([T35.mk ([121] : List UInt8) ([97] : List UInt8) (2 : Int)]) ([] : List T94) ([] : List UInt8)] _ rfl) ?_
 refine AOps.go [7] [] [] [1] 0 ⟨[(1, .tv (ownL 6 63 c62 ([T62.mk ([97] : List UInt8) ([] : List UInt8) false ([T35.mk ([120] : List UInt8) ([] : List UInt8) (0 : Int)]) ([] : List T94) ([] : List UInt8), T62.mk ([98] : List UInt8) ([97] : List UInt8) false ([T35.mk ([121] : List UInt8) ([97] : List UInt8) (2 : Int)]) ([] : List T94) ([] : List UInt8)])))], []⟩ ?_ z0 trivial ?_
 · kernel_rfl
 refine AOps.nil ?_
 refine AWp.seq ?_
 refine AWp.start [0] [1, 2, 3, 4, 5, 6] [] [1, 15] 0 ⟨[(1, .tv (ownL 6 63 c62 ([T62.mk ([97] : List UInt8) ([] : List UInt8) false ([T35.mk ([120] : List UInt8) ([] : List UInt8) (0 : Int)]) ([] : List T94) ([] : List UInt8), T62.mk ([98] : List UInt8) ([97] : List UInt8) false ([T35.mk ([121] : List UInt8) ([97] : List UInt8) (2 : Int)]) ([] : List T94) ([] : List UInt8)]))), (15, .al (.slot 1 0, []))], []⟩ rfl ?_ z0 trivial ?_
 · kernel_rfl
 obtain ⟨v1, hv1, h⟩ := of_bind h
 refine AOps.cons (AOne.callR (F := (FF 41 0)) _ rfl rfl rfl _ rfl rfl _ _ rfl Try.call19 [PlainTo (([T62.mk ([97] : List UInt8) ([] : List UInt8) false ([T35.mk ([120] : List UInt8) ([] : List UInt8) (0 : Int)]) ([] : List T94) ([] : List UInt8), T62.mk ([98] : List UInt8) ([97] : List UInt8) false ([T35.mk ([121] : List UInt8) ([97] : List UInt8) (2 : Int)]) ([] : List T94) ([] : List UInt8)]).length) (fun i => c62 (([T62.mk ([97] : List UInt8) ([] : List UInt8) false ([T35.mk ([120] : List UInt8) ([] : List UInt8) (0 : Int)]) ([] : List T94) ([] : List UInt8), T62.mk ([98] : List UInt8) ([97] : List UInt8) false ([T35.mk ([121] : List UInt8) ([97] : List UInt8) (2 : Int)]) ([] : List T94) ([] : List UInt8)]).getD i default))] [q0 ([T62.mk ([97] : List UInt8) ([] : List UInt8) false ([T35.mk ([120] : List UInt8) ([] : List UInt8) (0 : Int)]) ([] : List T94) ([] : List UInt8), T62.mk ([98] : List UInt8) ([97] : List UInt8) false ([T35.mk ([121] : List UInt8) ([97] : List UInt8) (2 : Int)]) ([] : List T94) ([] : List UInt8)]), tS ([98] : List UInt8)] rfl (fun _ _ => rfl) (f19_ok ([T62.mk ([97] : List UInt8) ([] : List UInt8) false ([T35.mk ([120] : List UInt8) ([] : List UInt8) (0 : Int)]) ([] : List T94) ([] : List UInt8), T62.mk ([98] : List UInt8) ([97] : List UInt8) false ([T35.mk ([121] : List UInt8) ([97] : List UInt8) (2 : Int)]) ([] : List T94) ([] : List UInt8)]) ([98] : List UInt8) hv1) (ind_of rfl) rfl) ?_
 refine AOps.go [2, 3, 4, 5, 6] [] [] [1, 2, 3] 0 ⟨[(1, .tv (ownL 6 63 c62 ([T62.mk ([97] : List UInt8) ([] : List UInt8) false ([T35.mk ([120] : List UInt8) ([] : List UInt8) (0 : Int)]) ([] : List T94) ([] : List UInt8), T62.mk ([98] : List UInt8) ([97] : List UInt8) false ([T35.mk ([121] : List UInt8) ([97] : List UInt8) (2 : Int)]) ([] : List T94) ([] : List UInt8)]))), (2, tI v1.1), (3, tI v1.2)], []⟩ ?_ z0 trivial ?_
 · kernel_rfl
 refine AOps.nil ?_
 refine AWp.seq ?_
 refine AWp.start [0, 1, 2] [3, 4, 5, 6, 7, 8, 9, 10] [] [1, 2, 3, 20, 22] 0 ⟨[(1, .tv (ownL 6 63 c62 ([T62.mk ([97] : List UInt8) ([] : List UInt8) false ([T35.mk ([120] : List UInt8) ([] : List UInt8) (0 : Int)]) ([] : List T94) ([] : List UInt8), T62.mk ([98] : List UInt8) ([97] : List UInt8) false ([T35.mk ([121] : List UInt8) ([97] : List UInt8) (2 : Int)]) ([] : List T94) ([] : List UInt8)]))), (2, tI v1.1), (3, tI v1.2), (20, .al (.slot 1 0, [])), (22, .tv (.own 2 38 1 (newRowF [.str ([120] : List UInt8), .int .i64 (0 : Int)] 2)))], []⟩ rfl ?_ z0 trivial ?_
 · kernel_rfl
 refine AOps.extL 22 c37 ([T37.mk ([120] : List UInt8) (0 : Int)]) rfl rfl (row_at c37 2 (fun _ => rfl) [T37.mk ([120] : List UInt8) (0 : Int)] _ rfl) ?_
 refine AOps.freezeL 22 c37 ([T37.mk ([120] : List UInt8) (0 : Int)]) rfl (fun _ => rfl) ?_
 obtain ⟨v2, hv2, h⟩ := of_bind h
 refine AOps.cons (AOne.callR (F := (FF 41 0)) _ rfl rfl rfl _ rfl rfl _ _ rfl Try.call16 [PlainTo (([T62.mk ([97] : List UInt8) ([] : List UInt8) false ([T35.mk ([120] : List UInt8) ([] : List UInt8) (0 : Int)]) ([] : List T94) ([] : List UInt8), T62.mk ([98] : List UInt8) ([97] : List UInt8) false ([T35.mk ([121] : List UInt8) ([97] : List UInt8) (2 : Int)]) ([] : List T94) ([] : List UInt8)]).length) (fun i => c62 (([T62.mk ([97] : List UInt8) ([] : List UInt8) false ([T35.mk ([120] : List UInt8) ([] : List UInt8) (0 : Int)]) ([] : List T94) ([] : List UInt8), T62.mk ([98] : List UInt8) ([97] : List UInt8) false ([T35.mk ([121] : List UInt8) ([97] : List UInt8) (2 : Int)]) ([] : List T94) ([] : List UInt8)]).getD i default))] [q0 ([T62.mk ([97] : List UInt8) ([] : List UInt8) false ([T35.mk ([120] : List UInt8) ([] : List UInt8) (0 : Int)]) ([] : List T94) ([] : List UInt8), T62.mk ([98] : List UInt8) ([97] : List UInt8) false ([T35.mk ([121] : List UInt8) ([97] : List UInt8) (2 : Int)]) ([] : List T94) ([] : List UInt8)]), tS ([98] : List UInt8), q6 ([T37.mk ([120] : List UInt8) (0 : Int)])] rfl (fun _ _ => rfl) (f16_ok ([T62.mk ([97] : List UInt8) ([] : List UInt8) false ([T35.mk ([120] : List UInt8) ([] : List UInt8) (0 : Int)]) ([] : List T94) ([] : List UInt8), T62.mk ([98] : List UInt8) ([97] : List UInt8) false ([T35.mk ([121] : List UInt8) ([97] : List UInt8) (2 : Int)]) ([] : List T94) ([] : List UInt8)]) ([98] : List UInt8) ([T37.mk ([120] : List UInt8) (0 : Int)]) hv2) (ind_of rfl) rfl) ?_
 refine AOps.go [4, 5, 6, 7, 8, 9, 10] [] [] [2, 3, 4, 6] 0 ⟨[(2, tI v1.1), (3, tI v1.2), (4, tI v2.1), (6, tI v2.2.2)], []⟩ ?_ z0 trivial ?_
 · kernel_rfl
 refine AOps.nil ?_
 refine AWp.seq ?_
 refine AWp.start [0, 1, 2] [3, 4, 5, 6, 7, 8, 9, 10, 11, 12, 13, 14] [] [3, 4, 6, 29] 0 ⟨[(3, tI v1.2), (4, tI v2.1), (6, tI v2.2.2), (29, tB (v1.1 == (3 : Int)))], []⟩ rfl ?_ z0 trivial ?_
 · kernel_rfl
 obtain ⟨v3, hc3, h⟩ := of_bind h
 refine AOps.cut [3, 4, 5] [6, 7, 8, 9, 10, 11, 12, 13, 14] (fun σ => σ = ⟨[(4, tI v2.1), (6, tI v2.2.2), (32, tB v3)], []⟩) ?_ fun σ' hJ => ?_
 · refine AOps.split (fun b => ⟨[(3, tI v1.2), (4, tI v2.1), (6, tI v2.2.2), (29, tB b)], []⟩) _ (fun hb => ?_) fun hb => ?_
   · replace hc3 := of_true hc3 hb
     refine AOps.go [3, 4, 5] [] [] [4, 6, 32] 0 ⟨[(4, tI v2.1), (6, tI v2.2.2), (32, tB (v1.2 == (0 : Int)))], []⟩ ?_ z0 trivial ?_
     · kernel_rfl
     cases hc3
     exact AOps.nil rfl
   · replace hc3 := of_false hc3 hb
     refine AOps.go [3, 4, 5] [] [] [4, 6, 32] 0 ⟨[(4, tI v2.1), (6, tI v2.2.2), (32, tB false)], []⟩ ?_ z0 trivial ?_
     · kernel_rfl
     cases hc3
     exact AOps.nil rfl
 subst hJ
 refine AOps.go [6] [7, 8, 9, 10, 11, 12, 13, 14] [] [4, 6, 33] 0 ⟨[(4, tI v2.1), (6, tI v2.2.2), (33, tB v3)], []⟩ ?_ z0 trivial ?_
 · kernel_rfl
 obtain ⟨v4, hc7, h⟩ := of_bind h
 refine AOps.cut [7, 8, 9] [10, 11, 12, 13, 14] (fun σ => σ = ⟨[(6, tI v2.2.2), (36, tB v4)], []⟩) ?_ fun σ' hJ => ?_
 · refine AOps.split (fun b => ⟨[(4, tI v2.1), (6, tI v2.2.2), (33, tB b)], []⟩) _ (fun hb => ?_) fun hb => ?_
   · replace hc7 := of_true hc7 hb
     refine AOps.go [7, 8, 9] [] [] [6, 36] 0 ⟨[(6, tI v2.2.2), (36, tB (v2.1 == (0 : Int)))], []⟩ ?_ z0 trivial ?_
     · kernel_rfl
     cases hc7
     exact AOps.nil rfl
   · replace hc7 := of_false hc7 hb
     refine AOps.go [7, 8, 9] [] [] [6, 36] 0 ⟨[(6, tI v2.2.2), (36, tB false)], []⟩ ?_ z0 trivial ?_
     · kernel_rfl
     cases hc7
     exact AOps.nil rfl
 subst hJ
 refine AOps.go [10] [11, 12, 13, 14] [] [6, 37] 0 ⟨[(6, tI v2.2.2), (37, tB v4)], []⟩ ?_ z0 trivial ?_
 · kernel_rfl
 obtain ⟨v5, hc11, h⟩ := of_bind h
 refine AOps.cut [11, 12, 13] [14] (fun σ => σ = ⟨[(40, tB v5)], []⟩) ?_ fun σ' hJ => ?_
 · refine AOps.split (fun b => ⟨[(6, tI v2.2.2), (37, tB b)], []⟩) _ (fun hb => ?_) fun hb => ?_
   · replace hc11 := of_true hc11 hb
     refine AOps.go [11, 12, 13] [] [] [40] 0 ⟨[(40, tB (v2.2.2 == (0 : Int)))], []⟩ ?_ z0 trivial ?_
     · kernel_rfl
     cases hc11
     exact AOps.nil rfl
   · replace hc11 := of_false hc11 hb
     refine AOps.go [11, 12, 13] [] [] [40] 0 ⟨[(40, tB false)], []⟩ ?_ z0 trivial ?_
     · kernel_rfl
     cases hc11
     exact AOps.nil rfl
 subst hJ
 refine AOps.go [14] [] [] [0] 0 ⟨[(0, tB v5)], []⟩ ?_ z0 trivial ?_
 · kernel_rfl
 refine AOps.nil ?_
 refine AWp.ret ?_
 cases h
 exact ⟨.inr rfl, rfl⟩

noncomputable def f18 (v1 : List T62) (v2 : List UInt8) : Option ((List T35) × Int) :=
 (f43 v1 v2).bind fun v3 => cond (v3.2 != (0 : Int)) (some (([] : List T35), v3.2)) ((f53 v1 v3.1).bind fun v4 => some (v4, (0 : Int)))

theorem f18_ok (v1 : List T62) (v2 : List UInt8) {r : (List T35) × Int} (h : f18 v1 v2 = some r) : ACall Try.prog 18 [.tv (fzL 6 c62 v1), .tv (.str v2)] [] (.tup [.tv (fzL 3 c35 r.1), .tv (.int .i64 r.2)]) [] := by
 refine ACall.ofN (FF 20 0) (rs := [4, 5]) (env := [(4, q2 r.1), (5, tI r.2)]) Try.func18 rfl Try.ntmps18 Try.results18 (by decide) (by decide) rfl (Nat.le_of_ble_eq_true rfl) rfl (get_ofN _ _ _ rfl) (ok_ofN _ rfl) ?_
 refine AWp.seq ?_
 refine AWp.start [0, 1] [] [] [0, 1] 0 ⟨[(0, q0 v1), (1, tS v2)], []⟩ rfl ?_ z0 trivial ?_
 · kernel_rfl
 refine AOps.nil ?_
 refine AWp.seq ?_
 refine AWp.start [0, 1] [2, 3, 4, 5, 6, 7] [] [0, 9, 10] 0 ⟨[(0, q0 v1), (9, q0 v1), (10, tS v2)], []⟩ rfl ?_ z0 trivial ?_
 · kernel_rfl
 obtain ⟨v3, hv3, h⟩ := of_bind h
 refine AOps.cons (AOne.callP (F := (FF 20 0)) _ rfl rfl rfl _ rfl rfl _ _ rfl Try.call43 [q0 v1, tS v2] rfl rfl (f43_ok v1 v2 hv3) rfl) ?_
 refine AOps.go [3, 4, 5, 6, 7] [] [] [0, 6, 7] 0 ⟨[(0, q0 v1), (6, tI v3.1), (7, tI v3.2)], []⟩ ?_ z0 trivial ?_
 · kernel_rfl
 refine AOps.nil ?_
 refine AWp.seq ?_
 refine AWp.seq ?_
 refine AWp.start [0, 1] [] [] [0, 6, 7, 15] 0 ⟨[(0, q0 v1), (6, tI v3.1), (7, tI v3.2), (15, tB (v3.2 != (0 : Int)))], []⟩ rfl ?_ z0 trivial ?_
 · kernel_rfl
 refine AOps.nil ?_
 refine AWp.cond rfl (fun hb => ?_) fun hb => ?_
 · replace h := of_true h hb
   refine AWp.keepTo [7] 0 ⟨[(7, tI v3.2)], []⟩ ?_ z0 ?_
   · kernel_rfl
   refine AWp.seq ?_
   refine AWp.start [0, 1, 2] [] [] [4, 5] 0 ⟨[(4, .tv (.sc (.slice none 0 0))), (5, tI v3.2)], []⟩ rfl ?_ z0 trivial ?_
   · kernel_rfl
   refine AOps.nil ?_
   refine AWp.nilFz 4 3 (fun i => c35 (([] : List T35).getD i default)) rfl ?_
   refine AWp.keepTo [4, 5] 0 ⟨[(4, q2 ([] : List T35)), (5, tI v3.2)], []⟩ ?_ z0 ?_
   · kernel_rfl
   refine AWp.ret ?_
   cases h
   exact ⟨.inr rfl, rfl⟩
 · replace h := of_false h hb
   refine AWp.keepTo [0, 6] 0 ⟨[(0, q0 v1), (6, tI v3.1)], []⟩ ?_ z0 ?_
   · kernel_rfl
   refine AWp.skip ?_
   refine AWp.seq ?_
   refine AWp.start [0, 1] [2, 3, 4] [] [17, 18] 0 ⟨[(17, q0 v1), (18, tI v3.1)], []⟩ rfl ?_ z0 trivial ?_
   · kernel_rfl
   obtain ⟨v4, hv4, h⟩ := of_bind h
   refine AOps.cons (AOne.callP (F := (FF 20 0)) _ rfl rfl rfl _ rfl rfl _ _ rfl Try.call53 [q0 v1, tI v3.1] rfl rfl (f53_ok v1 v3.1 hv4) rfl) ?_
   refine AOps.go [3, 4] [] [] [4, 5] 0 ⟨[(4, .tv (ownL 3 36 c35 v4)), (5, tI (0 : Int))], []⟩ ?_ z0 trivial ?_
   · kernel_rfl
   refine AOps.nil ?_
   refine AWp.freezeL 4 c35 v4 rfl (fun _ => rfl) ?_
   refine AWp.keepTo [4, 5] 0 ⟨[(4, q2 v4), (5, tI (0 : Int))], []⟩ ?_ z0 ?_
   · kernel_rfl
   refine AWp.ret ?_
   cases h
   exact ⟨.inr rfl, rfl⟩

noncomputable def f5_j1 (v5 : (List T35) × Int) (v7 : Int) (v8 : Int) (v10 : Int × (List UInt8) × Int) (v11 : Int) : Option ((Int × Int) ⊕ Out Bool Int) :=
 (cond (v10.2.2 != (0 : Int)) (some true) (some (v10.1 != v7))).bind fun v12 => cond v12 (some (.inr (.ret false))) (if (0 : Int) ≤ v8 ∧ v8 < (v5.1.length : Int) then some (.inl (w64 (v7 + (w64 (v11 * (if (1 : Int) > (v5.1.getD v8.toNat default).f2 then (1 : Int) else (v5.1.getD v8.toNat default).f2)))), w64 (v8 + (1 : Int)))) else none)

noncomputable def f5_b2 (v1 : List T62) (v2 : List UInt8) (v5 : (List T35) × Int) (v7 : Int) (v8 : Int) : Option ((Int × Int) ⊕ Out Bool Int) :=
 cond (decide (v8 < (v5.1.length : Int))) (if (0 : Int) ≤ v8 ∧ v8 < (v5.1.length : Int) then (f16 v1 v2 [T37.mk ((v5.1.getD v8.toNat default).f0) (0 : Int)]).bind fun v10 => if (0 : Int) ≤ v8 ∧ v8 < (v5.1.length : Int) then cond (!(((v5.1.getD v8.toNat default).f1) == ([] : List UInt8))) (if (0 : Int) ≤ v8 ∧ v8 < (v5.1.length : Int) then (f19 v1 ((v5.1.getD v8.toNat default).f1)).bind fun v13 => f5_j1 v5 v7 v8 v10 v13.1 else none) (f5_j1 v5 v7 v8 v10 (1 : Int)) else none else none) (some (.inr (.go v7)))

noncomputable def f5 (v1 : List T62) (v2 : List UInt8) : Option Bool :=
 (f12 v1).bind fun v3 => cond v3 ((f13 ).bind fun v4 => some v4) ((f18 v1 v2).bind fun v5 => cond (v5.2 != (0 : Int)) ((f13 ).bind fun v6 => some v6) ((iter (fun s => f5_b2 v1 v2 v5 s.1 s.2) ((0 : Int), (0 : Int))).bind fun y => match y with | .ret v14 => some v14 | .go v9 => (f19 v1 v2).bind fun v15 => (cond (v15.2 == (0 : Int)) (some (v15.1 == v9)) (some false)).bind fun v16 => (cond v16 ((f13 ).bind fun v18 => some v18) (some false)).bind fun v17 => some v17))

theorem f5_ok (v1 : List T62) (v2 : List UInt8) {r : Bool} (h : f5 v1 v2 = some r) : ACall Try.prog 5 [.tv (fzL 6 c62 v1), .tv (.str v2)] [] (.tv (.bool r)) [] := by
 refine ACall.of1 (FF 95 0) Try.func5 rfl Try.ntmps5 Try.results5 (Nat.le_of_ble_eq_true rfl) rfl rfl ?_
 refine AWp.seq ?_
 refine AWp.start [0] [] [] [0, 1] 0 ⟨[(0, q0 v1), (1, tS v2)], []⟩ rfl ?_ z0 trivial ?_
 · kernel_rfl
 refine AOps.nil ?_
 refine AWp.seq ?_
 refine AWp.seq ?_
 refine AWp.start [0] [1] [] [0, 1, 14] 0 ⟨[(0, q0 v1), (1, tS v2), (14, q0 v1)], []⟩ rfl ?_ z0 trivial ?_
 · kernel_rfl
 obtain ⟨v3, hv3, h⟩ := of_bind h
 refine AOps.cons (AOne.callP (F := (FF 95 0)) _ rfl rfl rfl _ rfl rfl _ _ rfl Try.call12 [q0 v1] rfl rfl (f12_ok v1 hv3) rfl) ?_
 refine AOps.keepTo [0, 1, 15] 0 ⟨[(0, q0 v1), (1, tS v2), (15, tB v3)], []⟩ ?_ z0 ?_
 · kernel_rfl
 refine AOps.nil ?_
 refine AWp.cond rfl (fun hb => ?_) fun hb => ?_
 · replace h := of_true h hb
   refine AWp.keepTo [] 0 ⟨[], []⟩ ?_ z0 ?_
   · kernel_rfl
   refine AWp.seq ?_
   refine AWp.start [] [0, 1] [] [] 0 ⟨[], []⟩ rfl ?_ z0 trivial ?_
   · kernel_rfl
   obtain ⟨v4, hv4, h⟩ := of_bind h
   refine AOps.cons (AOne.callP (F := (FF 95 0)) _ rfl rfl rfl _ rfl rfl _ _ rfl Try.call13 [] rfl rfl (f13_ok  hv4) rfl) ?_
   refine AOps.go [1] [] [] [4] 0 ⟨[(4, tB v4)], []⟩ ?_ z0 trivial ?_
   · kernel_rfl
   refine AOps.nil ?_
   refine AWp.ret ?_
   cases h
   exact ⟨.inr rfl, rfl⟩
 · replace h := of_false h hb
   refine AWp.keepTo [0, 1] 0 ⟨[(0, q0 v1), (1, tS v2)], []⟩ ?_ z0 ?_
   · kernel_rfl
   refine AWp.skip ?_
   refine AWp.seq ?_
   refine AWp.start [0, 1] [2, 3, 4, 5, 6, 7] [] [0, 1, 18, 19] 0 ⟨[(0, q0 v1), (1, tS v2), (18, q0 v1), (19, tS v2)], []⟩ rfl ?_ z0 trivial ?_
   · kernel_rfl
   obtain ⟨v5, hv5, h⟩ := of_bind h
   refine AOps.cons (AOne.callP (F := (FF 95 0)) _ rfl rfl rfl _ rfl rfl _ _ rfl Try.call18 [q0 v1, tS v2] rfl rfl (f18_ok v1 v2 hv5) rfl) ?_
   refine AOps.go [3, 4, 5, 6, 7] [] [] [0, 1, 5, 6] 0 ⟨[(0, q0 v1), (1, tS v2), (5, q2 v5.1), (6, tI v5.2)], []⟩ ?_ z0 trivial ?_
   · kernel_rfl
   refine AOps.nil ?_
   refine AWp.seq ?_
   refine AWp.seq ?_
   refine AWp.start [0, 1] [] [] [0, 1, 5, 24] 0 ⟨[(0, q0 v1), (1, tS v2), (5, q2 v5.1), (24, tB (v5.2 != (0 : Int)))], []⟩ rfl ?_ z0 trivial ?_
   · kernel_rfl
   refine AOps.nil ?_
   refine AWp.cond rfl (fun hb => ?_) fun hb => ?_
   · replace h := of_true h hb
     refine AWp.keepTo [] 0 ⟨[], []⟩ ?_ z0 ?_
     · kernel_rfl
     refine AWp.seq ?_
     refine AWp.start [] [0, 1] [] [] 0 ⟨[], []⟩ rfl ?_ z0 trivial ?_
     · kernel_rfl
     obtain ⟨v6, hv6, h⟩ := of_bind h
     refine AOps.cons (AOne.callP (F := (FF 95 0)) _ rfl rfl rfl _ rfl rfl _ _ rfl Try.call13 [] rfl rfl (f13_ok  hv6) rfl) ?_
     refine AOps.go [1] [] [] [4] 0 ⟨[(4, tB v6)], []⟩ ?_ z0 trivial ?_
     · kernel_rfl
     refine AOps.nil ?_
     refine AWp.ret ?_
     cases h
     exact ⟨.inr rfl, rfl⟩
   · replace h := of_false h hb
     refine AWp.keepTo [0, 1, 5] 0 ⟨[(0, q0 v1), (1, tS v2), (5, q2 v5.1)], []⟩ ?_ z0 ?_
     · kernel_rfl
     refine AWp.skip ?_
     refine AWp.seq ?_
     refine AWp.start [0] [] [] [0, 1, 5, 7] 0 ⟨[(0, q0 v1), (1, tS v2), (5, q2 v5.1), (7, tI (0 : Int))], []⟩ rfl ?_ z0 trivial ?_
     · kernel_rfl
     refine AOps.nil ?_
     refine AWp.seq ?_
     refine AWp.seq ?_
     refine AWp.start [0] [] [] [0, 1, 5, 7, 8] 0 ⟨[(0, q0 v1), (1, tS v2), (5, q2 v5.1), (7, tI (0 : Int)), (8, tI (0 : Int))], []⟩ rfl ?_ z0 trivial ?_
     · kernel_rfl
     refine AOps.nil ?_
     refine AWp.block ?_
     obtain ⟨y, hy, h⟩ := of_bind h
     refine AWp.mono (AWp.loop (S := Int × Int) (Y := Out Bool Int) (fun s => ⟨[(0, q0 v1), (1, tS v2), (5, q2 v5.1), (7, tI s.1), (8, tI s.2)], []⟩) (fun s => f5_b2 v1 v2 v5 s.1 s.2) (fun y e σ => match y with | .ret r => e = .ret ∧ σ = ⟨[(4, tB r)], []⟩ | .go v => e = .exit 0 ∧ σ = ⟨[(0, q0 v1), (1, tS v2), (7, tI v)], []⟩) ?_ hy) ?_
     · rintro ⟨v7, v8⟩ o h
       refine AWp.seq ?_
       refine AWp.seq ?_
       refine AWp.start [0, 1, 2, 3] [] [] [0, 1, 5, 7, 8, 29] 0 ⟨[(0, q0 v1), (1, tS v2), (5, q2 v5.1), (7, tI v7), (8, tI v8), (29, tB (decide (v8 < (v5.1.length : Int))))], []⟩ rfl ?_ z0 trivial ?_
       · kernel_rfl
       refine AOps.nil ?_
       refine AWp.cond rfl (fun hb => ?_) fun hb => ?_
       · replace h := of_true h hb
         refine AWp.keepTo [0, 1, 5, 7, 8] 0 ⟨[(0, q0 v1), (1, tS v2), (5, q2 v5.1), (7, tI v7), (8, tI v8)], []⟩ ?_ z0 ?_
         · kernel_rfl
         refine AWp.skip ?_
         refine AWp.seq ?_
         refine AWp.block ?_
         refine AWp.seq ?_
         obtain ⟨hg, h⟩ := of_guard h
         refine AWp.start [0, 1, 2, 3, 4, 5, 6, 7, 8] [9, 10, 11, 12, 13, 14, 15, 16] [(0 : Int) ≤ v8, v8 < (v5.1.length : Int)] [0, 1, 5, 7, 8, 33, 34, 41] 0 ⟨[(0, q0 v1), (1, tS v2), (5, q2 v5.1), (7, tI v7), (8, tI v8), (33, q0 v1), (34, tS v2), (41, .tv (.own 2 38 1 (newRowF [.str ((gD v5.1 v8).f0), .int .i64 (0 : Int)] 2)))], []⟩ rfl ?_ z0 ⟨hg.1, hg.2⟩ ?_
         · kernel_rfl
         refine AOps.extL 41 c37 [T37.mk ((gD v5.1 v8).f0) (0 : Int)] rfl rfl (row_at c37 2 (fun _ => rfl) [T37.mk ((gD v5.1 v8).f0) (0 : Int)] _ rfl) ?_
         refine AOps.freezeL 41 c37 [T37.mk ((gD v5.1 v8).f0) (0 : Int)] rfl (fun _ => rfl) ?_
         obtain ⟨v10, hv10, h⟩ := of_bind h
         refine AOps.cons (AOne.callP (F := (FF 95 0)) _ rfl rfl rfl _ rfl rfl _ _ rfl Try.call16 [q0 v1, tS v2, q6 [T37.mk ((gD v5.1 v8).f0) (0 : Int)]] rfl rfl (f16_ok v1 v2 [T37.mk ((gD v5.1 v8).f0) (0 : Int)] hv10) rfl) ?_
         refine AOps.go [10, 11, 12, 13, 14, 15, 16] [] [] [0, 1, 5, 7, 8, 9, 11] 0 ⟨[(0, q0 v1), (1, tS v2), (5, q2 v5.1), (7, tI v7), (8, tI v8), (9, tI v10.1), (11, tI v10.2.2)], []⟩ ?_ z0 trivial ?_
         · kernel_rfl
         refine AOps.nil ?_
         refine AWp.seq ?_
         refine AWp.start [0] [] [] [0, 1, 5, 7, 8, 9, 11, 12] 0 ⟨[(0, q0 v1), (1, tS v2), (5, q2 v5.1), (7, tI v7), (8, tI v8), (9, tI v10.1), (11, tI v10.2.2), (12, tI (1 : Int))], []⟩ rfl ?_ z0 trivial ?_
         · kernel_rfl
         refine AOps.nil ?_
         refine AWp.join (V := Int) (fun w => ⟨[(0, q0 v1), (1, tS v2), (5, q2 v5.1), (7, tI v7), (8, tI v8), (9, tI v10.1), (11, tI v10.2.2), (12, tI w)], []⟩) (fun w => f5_j1 v5 v7 v8 v10 w = some o) ?_ ?_
         · refine AWp.seq ?_
           obtain ⟨hg, h⟩ := of_guard h
           refine AWp.start [0, 1, 2, 3, 4, 5] [] [(0 : Int) ≤ v8, v8 < (v5.1.length : Int)] [0, 1, 5, 7, 8, 9, 11, 12, 51] 0 ⟨[(0, q0 v1), (1, tS v2), (5, q2 v5.1), (7, tI v7), (8, tI v8), (9, tI v10.1), (11, tI v10.2.2), (12, tI (1 : Int)), (51, tB (!(((gD v5.1 v8).f1) == ([] : List UInt8))))], []⟩ rfl ?_ z0 ⟨hg.1, hg.2⟩ ?_
           · kernel_rfl
           refine AOps.nil ?_
           refine AWp.cond rfl (fun hb => ?_) fun hb => ?_
           · replace h := of_true h hb
             refine AWp.keepTo [0, 1, 5, 7, 8, 9, 11] 0 ⟨[(0, q0 v1), (1, tS v2), (5, q2 v5.1), (7, tI v7), (8, tI v8), (9, tI v10.1), (11, tI v10.2.2)], []⟩ ?_ z0 ?_
             · kernel_rfl
             obtain ⟨hg, h⟩ := of_guard h
             refine AWp.start [0, 1, 2, 3, 4, 5] [6, 7, 8, 9, 10] [(0 : Int) ≤ v8, v8 < (v5.1.length : Int)] [0, 1, 5, 7, 8, 9, 11, 53, 58] 0 ⟨[(0, q0 v1), (1, tS v2), (5, q2 v5.1), (7, tI v7), (8, tI v8), (9, tI v10.1), (11, tI v10.2.2), (53, q0 v1), (58, tS ((gD v5.1 v8).f1))], []⟩ rfl ?_ z0 ⟨hg.1, hg.2⟩ ?_
             · kernel_rfl
             obtain ⟨v13, hv13, h⟩ := of_bind h
             refine AOps.cons (AOne.callP (F := (FF 95 0)) _ rfl rfl rfl _ rfl rfl _ _ rfl Try.call19 [q0 v1, tS ((gD v5.1 v8).f1)] rfl rfl (f19_ok v1 ((gD v5.1 v8).f1) hv13) rfl) ?_
             refine AOps.go [7, 8, 9, 10] [] [] [0, 1, 5, 7, 8, 9, 11, 12] 0 ⟨[(0, q0 v1), (1, tS v2), (5, q2 v5.1), (7, tI v7), (8, tI v8), (9, tI v10.1), (11, tI v10.2.2), (12, tI v13.1)], []⟩ ?_ z0 trivial ?_
             · kernel_rfl
             refine AOps.nil ?_
             exact ⟨v13.1, h, rfl⟩
           · replace h := of_false h hb
             refine AWp.keepTo [0, 1, 5, 7, 8, 9, 11, 12] 0 ⟨[(0, q0 v1), (1, tS v2), (5, q2 v5.1), (7, tI v7), (8, tI v8), (9, tI v10.1), (11, tI v10.2.2), (12, tI (1 : Int))], []⟩ ?_ z0 ?_
             · kernel_rfl
             refine AWp.skip ?_
             exact ⟨(1 : Int), h, rfl⟩
         · rintro v11 h
           refine AWp.seq ?_
           refine AWp.seq ?_
           refine AWp.start [0, 1, 2] [3, 4, 5, 6] [] [0, 1, 5, 7, 8, 9, 12, 64] 0 ⟨[(0, q0 v1), (1, tS v2), (5, q2 v5.1), (7, tI v7), (8, tI v8), (9, tI v10.1), (12, tI v11), (64, tB (v10.2.2 != (0 : Int)))], []⟩ rfl ?_ z0 trivial ?_
           · kernel_rfl
           obtain ⟨v12, hc3, h⟩ := of_bind h
           refine AOps.cut [3, 4, 5, 6] [] (fun σ => σ = ⟨[(0, q0 v1), (1, tS v2), (5, q2 v5.1), (7, tI v7), (8, tI v8), (12, tI v11), (68, tB v12)], []⟩) ?_ fun σ' hJ => ?_
           · refine AOps.split (fun b => ⟨[(0, q0 v1), (1, tS v2), (5, q2 v5.1), (7, tI v7), (8, tI v8), (9, tI v10.1), (12, tI v11), (64, tB b)], []⟩) _ (fun hb => ?_) fun hb => ?_
             · replace hc3 := of_true hc3 hb
               refine AOps.go [3, 4, 5, 6] [] [] [0, 1, 5, 7, 8, 12, 68] 0 ⟨[(0, q0 v1), (1, tS v2), (5, q2 v5.1), (7, tI v7), (8, tI v8), (12, tI v11), (68, tB true)], []⟩ ?_ z0 trivial ?_
               · kernel_rfl
               cases hc3
               exact AOps.nil rfl
             · replace hc3 := of_false hc3 hb
               refine AOps.go [3, 4, 5, 6] [] [] [0, 1, 5, 7, 8, 12, 68] 0 ⟨[(0, q0 v1), (1, tS v2), (5, q2 v5.1), (7, tI v7), (8, tI v8), (12, tI v11), (68, tB (v10.1 != v7))], []⟩ ?_ z0 trivial ?_
               · kernel_rfl
               cases hc3
               exact AOps.nil rfl
           subst hJ
           refine AOps.nil ?_
           refine AWp.cond rfl (fun hb => ?_) fun hb => ?_
           · replace h := of_true h hb
             refine AWp.keepTo [] 0 ⟨[], []⟩ ?_ z0 ?_
             · kernel_rfl
             refine AWp.seq ?_
             refine AWp.start [0] [] [] [4] 0 ⟨[(4, tB false)], []⟩ rfl ?_ z0 trivial ?_
             · kernel_rfl
             refine AOps.nil ?_
             refine AWp.ret ?_
             cases h
             exact Or.inr ⟨_, rfl, by simp, rfl, rfl⟩
           · replace h := of_false h hb
             refine AWp.keepTo [0, 1, 5, 7, 8, 12] 0 ⟨[(0, q0 v1), (1, tS v2), (5, q2 v5.1), (7, tI v7), (8, tI v8), (12, tI v11)], []⟩ ?_ z0 ?_
             · kernel_rfl
             refine AWp.skip ?_
             obtain ⟨hg, h⟩ := of_guard h
             refine AWp.start [0, 1, 2, 3, 4, 5, 6, 7, 8, 9, 10] [] [(0 : Int) ≤ v8, v8 < (v5.1.length : Int)] [0, 1, 5, 7, 8] 0 ⟨[(0, q0 v1), (1, tS v2), (5, q2 v5.1), (7, tI (w64 (v7 + (w64 (v11 * (if (1 : Int) > (gD v5.1 v8).f2 then (1 : Int) else (gD v5.1 v8).f2)))))), (8, tI v8)], []⟩ rfl ?_ z0 ⟨hg.1, hg.2⟩ ?_
             · kernel_rfl
             refine AOps.nil ?_
             refine AWp.start [0, 1, 2] [] [] [0, 1, 5, 7, 8] 0 ⟨[(0, q0 v1), (1, tS v2), (5, q2 v5.1), (7, tI (w64 (v7 + (w64 (v11 * (if (1 : Int) > (gD v5.1 v8).f2 then (1 : Int) else (gD v5.1 v8).f2)))))), (8, tI (w64 (v8 + (1 : Int))))], []⟩ rfl ?_ z0 trivial ?_
             · kernel_rfl
             refine AOps.nil ?_
             cases h
             exact Or.inl ⟨_, rfl, rfl, rfl⟩
       · replace h := of_false h hb
         refine AWp.keepTo [0, 1, 7] 0 ⟨[(0, q0 v1), (1, tS v2), (7, tI v7)], []⟩ ?_ z0 ?_
         · kernel_rfl
         refine AWp.exit ?_
         cases h
         exact Or.inr ⟨_, rfl, by simp, rfl, rfl⟩
     · intro e σ hp
       rcases y with v14 | v9
       · obtain ⟨rfl, rfl⟩ := hp
         cases h
         exact ⟨.inr rfl, rfl⟩
       · obtain ⟨rfl, rfl⟩ := hp
         refine AWp.seq ?_
         refine AWp.start [0, 1] [2, 3, 4, 5, 6, 7] [] [7, 80, 81] 0 ⟨[(7, tI v9), (80, q0 v1), (81, tS v2)], []⟩ rfl ?_ z0 trivial ?_
         · kernel_rfl
         obtain ⟨v15, hv15, h⟩ := of_bind h
         refine AOps.cons (AOne.callP (F := (FF 95 0)) _ rfl rfl rfl _ rfl rfl _ _ rfl Try.call19 [q0 v1, tS v2] rfl rfl (f19_ok v1 v2 hv15) rfl) ?_
         refine AOps.go [3, 4, 5, 6, 7] [] [] [6, 7, 13] 0 ⟨[(6, tI v15.2), (7, tI v9), (13, tI v15.1)], []⟩ ?_ z0 trivial ?_
         · kernel_rfl
         refine AOps.nil ?_
         refine AWp.seq ?_
         refine AWp.start [0, 1, 2] [3, 4, 5, 6, 7, 8, 9, 10] [] [7, 13, 87] 0 ⟨[(7, tI v9), (13, tI v15.1), (87, tB (v15.2 == (0 : Int)))], []⟩ rfl ?_ z0 trivial ?_
         · kernel_rfl
         obtain ⟨v16, hc3, h⟩ := of_bind h
         refine AOps.cut [3, 4, 5, 6] [7, 8, 9, 10] (fun σ => σ = ⟨[(91, tB v16)], []⟩) ?_ fun σ' hJ => ?_
         · refine AOps.split (fun b => ⟨[(7, tI v9), (13, tI v15.1), (87, tB b)], []⟩) _ (fun hb => ?_) fun hb => ?_
           · replace hc3 := of_true hc3 hb
             refine AOps.go [3, 4, 5, 6] [] [] [91] 0 ⟨[(91, tB (v15.1 == v9))], []⟩ ?_ z0 trivial ?_
             · kernel_rfl
             cases hc3
             exact AOps.nil rfl
           · replace hc3 := of_false hc3 hb
             refine AOps.go [3, 4, 5, 6] [] [] [91] 0 ⟨[(91, tB false)], []⟩ ?_ z0 trivial ?_
             · kernel_rfl
             cases hc3
             exact AOps.nil rfl
         subst hJ
         refine AOps.go [7] [8, 9, 10] [] [92] 0 ⟨[(92, tB v16)], []⟩ ?_ z0 trivial ?_
         · kernel_rfl
         obtain ⟨v17, hc8, h⟩ := of_bind h
         refine AOps.cut [8, 9] [10] (fun σ => σ = ⟨[(94, tB v17)], []⟩) ?_ fun σ' hJ => ?_
         · refine AOps.split (fun b => ⟨[(92, tB b)], []⟩) _ (fun hb => ?_) fun hb => ?_
           · replace hc8 := of_true hc8 hb
             obtain ⟨v18, hv18, hc8⟩ := of_bind hc8
             refine AOps.cons (AOne.callP (F := (FF 95 0)) _ rfl rfl rfl _ rfl rfl _ _ rfl Try.call13 [] rfl rfl (f13_ok  hv18) rfl) ?_
             refine AOps.go [9] [] [] [94] 0 ⟨[(94, tB v18)], []⟩ ?_ z0 trivial ?_
             · kernel_rfl
             cases hc8
             exact AOps.nil rfl
           · replace hc8 := of_false hc8 hb
             refine AOps.go [8, 9] [] [] [94] 0 ⟨[(94, tB false)], []⟩ ?_ z0 trivial ?_
             · kernel_rfl
             cases hc8
             exact AOps.nil rfl
         subst hJ
         refine AOps.go [10] [] [] [4] 0 ⟨[(4, tB v17)], []⟩ ?_ z0 trivial ?_
         · kernel_rfl
         refine AOps.nil ?_
         refine AWp.ret ?_
         cases h
         exact ⟨.inr rfl, rfl⟩

end Go.Sx.der
