/- Printed by program (wip/gen): plain functions and their walks; no condition. -/
import Derived.Test.YtplfiblnmnpllaaGx2
namespace Go.Sx.der
open Go Go.Sx Go.Proofs

noncomputable def f16_b1 (v1 : List T62) (v3 : List T37) (v5 : Int) (v6 : List UInt8) (v7 : Int) : Option ((Int × (List UInt8) × Int) ⊕ Out (Int × (List UInt8) × Int) (Int × (List UInt8))) :=
 cond (decide (v7 < (v3.length : Int))) (if (0 : Int) ≤ v7 ∧ v7 < (v3.length : Int) then cond (v6 == ([] : List UInt8)) (some (.inr (.ret ((0 : Int), ([] : List UInt8), (5 : Int))))) ((f45 v1 v6).bind fun v10 => (f44 v1 v10 ((v3.getD v7.toNat default).f0)).bind fun v11 => cond (!v11.2.2) (some (.inr (.ret ((0 : Int), ([] : List UInt8), (5 : Int))))) ((cond (decide ((v3.getD v7.toNat default).f1 < (0 : Int))) (some true) ((f46 v11.2.1).bind fun v13 => some (decide ((v3.getD v7.toNat default).f1 ≥ v13)))).bind fun v12 => cond v12 (some (.inr (.ret ((0 : Int), ([] : List UInt8), (2 : Int))))) ((f47 v1 v11.2.1).bind fun v14 => some (.inl (w64 (v5 + (w64 (v11.1 + (w64 (((v3.getD v7.toNat default).f1) * v14))))), v11.2.1.f1, w64 (v7 + (1 : Int))))))) else none) (some (.inr (.go (v5, v6))))

noncomputable def f16 (v1 : List T62) (v2 : List UInt8) (v3 : List T37) : Option (Int × (List UInt8) × Int) :=
 (f43 v1 v2).bind fun v4 => cond (v4.2 != (0 : Int)) (some ((0 : Int), ([] : List UInt8), v4.2)) ((iter (fun s => f16_b1 v1 v3 s.1 s.2.1 s.2.2) ((0 : Int), v2, (0 : Int))).bind fun y => match y with | .ret v15 => some (v15.1, v15.2.1, v15.2.2) | .go (v8, v9) => some (v8, v9, (0 : Int)))

theorem f16_ok (v1 : List T62) (v2 : List UInt8) (v3 : List T37) {r : Int × (List UInt8) × Int} (h : f16 v1 v2 v3 = some r) : ACall Try.prog 16 [.tv (fzL 6 c62 v1), .tv (.str v2), .tv (fzL 2 c37 v3)] [] (.tup [.tv (.int .i64 r.1), .tv (.str r.2.1), .tv (.int .i64 r.2.2)]) [] := by
 refine ACall.ofN (FF 74 0) (rs := [6, 7, 8]) (env := [(6, tI r.1), (7, tS r.2.1), (8, tI r.2.2)]) Try.func16 rfl Try.ntmps16 Try.results16 (by decide) (by decide) rfl (Nat.le_of_ble_eq_true rfl) rfl (get_ofN _ _ _ rfl) (ok_ofN _ rfl) ?_
 refine AWp.seq ?_
 refine AWp.start [0, 1, 2] [] [] [0, 1, 2, 6] 0 ⟨[(0, q0 v1), (1, tS v2), (2, q6 v3), (6, tI (0 : Int))], []⟩ rfl ?_ z0 trivial ?_
 · kernel_rfl
 refine AOps.nil ?_
 refine AWp.seq ?_
 refine AWp.seq ?_
 refine AWp.start [0, 1] [2, 3, 4, 5, 6, 7] [] [0, 1, 2, 6, 17, 18] 0 ⟨[(0, q0 v1), (1, tS v2), (2, q6 v3), (6, tI (0 : Int)), (17, q0 v1), (18, tS v2)], []⟩ rfl ?_ z0 trivial ?_
 · kernel_rfl
 obtain ⟨v4, hv4, h⟩ := of_bind h
 refine AOps.cons (AOne.callP (F := (FF 74 0)) _ rfl rfl rfl _ rfl rfl _ _ rfl Try.call43 [q0 v1, tS v2] rfl rfl (f43_ok v1 v2 hv4) rfl) ?_
 refine AOps.go [3, 4, 5, 6, 7] [] [] [0, 1, 2, 6, 10] 0 ⟨[(0, q0 v1), (1, tS v2), (2, q6 v3), (6, tI (0 : Int)), (10, tI v4.2)], []⟩ ?_ z0 trivial ?_
 · kernel_rfl
 refine AOps.nil ?_
 refine AWp.seq ?_
 refine AWp.start [0, 1] [] [] [0, 1, 2, 6, 10, 23] 0 ⟨[(0, q0 v1), (1, tS v2), (2, q6 v3), (6, tI (0 : Int)), (10, tI v4.2), (23, tB (v4.2 != (0 : Int)))], []⟩ rfl ?_ z0 trivial ?_
 · kernel_rfl
 refine AOps.nil ?_
 refine AWp.cond rfl (fun hb => ?_) fun hb => ?_
 · replace h := of_true h hb
   refine AWp.keepTo [10] 0 ⟨[(10, tI v4.2)], []⟩ ?_ z0 ?_
   · kernel_rfl
   refine AWp.seq ?_
   refine AWp.start [0, 1, 2, 3] [] [] [6, 7, 8] 0 ⟨[(6, tI (0 : Int)), (7, tS ([] : List UInt8)), (8, tI v4.2)], []⟩ rfl ?_ z0 trivial ?_
   · kernel_rfl
   refine AOps.nil ?_
   refine AWp.ret ?_
   cases h
   exact ⟨.inr rfl, rfl⟩
 · replace h := of_false h hb
   refine AWp.keepTo [0, 1, 2, 6] 0 ⟨[(0, q0 v1), (1, tS v2), (2, q6 v3), (6, tI (0 : Int))], []⟩ ?_ z0 ?_
   · kernel_rfl
   refine AWp.skip ?_
   refine AWp.seq ?_
   refine AWp.start [0, 1] [] [] [0, 2, 6, 7] 0 ⟨[(0, q0 v1), (2, q6 v3), (6, tI (0 : Int)), (7, tS v2)], []⟩ rfl ?_ z0 trivial ?_
   · kernel_rfl
   refine AOps.nil ?_
   refine AWp.seq ?_
   refine AWp.seq ?_
   refine AWp.start [0, 1, 2] [] [] [0, 6, 7, 26, 27, 28] 0 ⟨[(0, q0 v1), (6, tI (0 : Int)), (7, tS v2), (26, q6 v3), (27, tI (v3.length : Int)), (28, tI (0 : Int))], []⟩ rfl ?_ z0 trivial ?_
   · kernel_rfl
   refine AOps.nil ?_
   refine AWp.block ?_
   obtain ⟨y, hy, h⟩ := of_bind h
   refine AWp.mono (AWp.loop (S := Int × (List UInt8) × Int) (Y := Out (Int × (List UInt8) × Int) (Int × (List UInt8))) (fun s => ⟨[(0, q0 v1), (6, tI s.1), (7, tS s.2.1), (26, q6 v3), (27, tI (v3.length : Int)), (28, tI s.2.2)], []⟩) (fun s => f16_b1 v1 v3 s.1 s.2.1 s.2.2) (fun y e σ => match y with | .ret r => e = .ret ∧ σ = ⟨[(6, tI r.1), (7, tS r.2.1), (8, tI r.2.2)], []⟩ | .go v => e = .exit 0 ∧ σ = ⟨[(6, tI v.1), (7, tS v.2)], []⟩) ?_ hy) ?_
   · rintro ⟨v5, v6, v7⟩ o h
     refine AWp.seq ?_
     refine AWp.start [0] [] [] [0, 6, 7, 26, 27, 28, 29] 0 ⟨[(0, q0 v1), (6, tI v5), (7, tS v6), (26, q6 v3), (27, tI (v3.length : Int)), (28, tI v7), (29, tB (decide (v7 < (v3.length : Int))))], []⟩ rfl ?_ z0 trivial ?_
     · kernel_rfl
     refine AOps.nil ?_
     refine AWp.seq ?_
     refine AWp.cond rfl (fun hb => ?_) fun hb => ?_
     · replace h := of_true h hb
       refine AWp.keepTo [0, 6, 7, 26, 27, 28] 0 ⟨[(0, q0 v1), (6, tI v5), (7, tS v6), (26, q6 v3), (27, tI (v3.length : Int)), (28, tI v7)], []⟩ ?_ z0 ?_
       · kernel_rfl
       refine AWp.skip ?_
       refine AWp.seq ?_
       refine AWp.block ?_
       refine AWp.seq ?_
       obtain ⟨hg, h⟩ := of_guard h
       refine AWp.start [0, 1, 2, 3] [] [(0 : Int) ≤ v7, v7 < (v3.length : Int)] [0, 6, 7, 12, 26, 27, 28] 1 ⟨[(0, q0 v1), (6, tI v5), (7, tS v6), (12, .pc 0 0), (26, q6 v3), (27, tI (v3.length : Int)), (28, tI v7)], [.cells 38 (c37 (gD v3 v7))]⟩ rfl ?_ z0 ⟨hg.1, hg.2⟩ ?_
       · kernel_rfl
       refine AOps.nil ?_
       refine AWp.seq ?_
       refine AWp.seq ?_
       refine AWp.pin 0 rfl rfl ?_
       refine AWp.keepTo [0, 6, 7, 12, 26, 27, 28] 0 ⟨[(0, q0 v1), (6, tI v5), (7, tS v6), (12, .rp (c37 (gD v3 v7))), (26, q6 v3), (27, tI (v3.length : Int)), (28, tI v7)], []⟩ ?_ z0 ?_
       · kernel_rfl
       refine AWp.start [0, 1] [] [] [0, 6, 7, 12, 26, 27, 28, 33] 0 ⟨[(0, q0 v1), (6, tI v5), (7, tS v6), (12, .rp (c37 (gD v3 v7))), (26, q6 v3), (27, tI (v3.length : Int)), (28, tI v7), (33, tB (v6 == ([] : List UInt8)))], []⟩ rfl ?_ z0 trivial ?_
       · kernel_rfl
       refine AOps.nil ?_
       refine AWp.cond rfl (fun hb => ?_) fun hb => ?_
       · replace h := of_true h hb
         refine AWp.keepTo [] 0 ⟨[], []⟩ ?_ z0 ?_
         · kernel_rfl
         refine AWp.seq ?_
         refine AWp.start [0, 1, 2] [] [] [6, 7, 8] 0 ⟨[(6, tI (0 : Int)), (7, tS ([] : List UInt8)), (8, tI (5 : Int))], []⟩ rfl ?_ z0 trivial ?_
         · kernel_rfl
         refine AOps.nil ?_
         refine AWp.ret ?_
         cases h
         exact Or.inr ⟨_, rfl, by simp, rfl, rfl⟩
       · replace h := of_false h hb
         refine AWp.keepTo [0, 6, 7, 12, 26, 27, 28] 0 ⟨[(0, q0 v1), (6, tI v5), (7, tS v6), (12, .rp (c37 (gD v3 v7))), (26, q6 v3), (27, tI (v3.length : Int)), (28, tI v7)], []⟩ ?_ z0 ?_
         · kernel_rfl
         refine AWp.skip ?_
         refine AWp.seq ?_
         refine AWp.draw FFm _ (n := 15) rfl (ls := #[n1, n1, n1, n1, n1, n1, n1, n1, n1, n1, n1, n1, n1, n1, n1]) rfl ?_ (fun _ h => h)
         refine AAny.go (by kernel_rfl) [0, 1, 2, 4, 5] (fuel' := 10) rfl [] #[y1, y1, y1, n1, y1, y1, n1, n1, n1, n1, n1, n1, n1, n1, n1] [0, 6, 12, 26, 27, 28, 35, 36, 37, 40] 0 ⟨[(0, q0 v1), (6, tI v5), (12, .rp (c37 (gD v3 v7))), (26, q6 v3), (27, tI (v3.length : Int)), (28, tI v7), (35, q0 v1), (36, q0 v1), (37, tS v6), (40, tS ((gD v3 v7).f0))], []⟩ ?_ z0 trivial ?_
         · kernel_rfl
         obtain ⟨v10, hv10, h⟩ := of_bind h
         obtain ⟨v11, hv11, h⟩ := of_bind h
         refine AAny.share 0 #[y1, y1, y1, y1, y1, y1, y1, y1, y1, y1, y1, y1, y1, y1, y1] ⟨[(0, q0 v1), (6, tI v5), (12, .rp (c37 (gD v3 v7))), (13, tI v11.1), (14, .pc 0 0), (15, tB v11.2.2), (26, q6 v3), (27, tI (v3.length : Int)), (28, tI v7)], [.cells 36 [.str v11.2.1.f0, .str v11.2.1.f1, .int .i64 v11.2.1.f2]]⟩ ?_ fun n5_ => ?_
         · refine AAny.keepTo [0, 6, 12, 13, 14, 15, 26, 27, 28] 1 ⟨[(0, q0 v1), (6, tI v5), (12, .rp (c37 (gD v3 v7))), (13, tI v11.1), (14, .pc 0 0), (15, tB v11.2.2), (26, q6 v3), (27, tI (v3.length : Int)), (28, tI v7)], [.cells 36 [.str v11.2.1.f0, .str v11.2.1.f1, .int .i64 v11.2.1.f2]]⟩ _ ?_ rfl z0 (AAny.done (by kernel_rfl) ?_)
           · kernel_rfl
           refine AWp.seq ?_
           refine AWp.pin 0 rfl rfl ?_
           refine AWp.keepTo [0, 6, 12, 13, 14, 15, 26, 27, 28] 0 ⟨[(0, q0 v1), (6, tI v5), (12, .rp (c37 (gD v3 v7))), (13, tI v11.1), (14, .rp [.str v11.2.1.f0, .str v11.2.1.f1, .int .i64 v11.2.1.f2]), (15, tB v11.2.2), (26, q6 v3), (27, tI (v3.length : Int)), (28, tI v7)], []⟩ ?_ z0 ?_
           · kernel_rfl
           refine AWp.block ?_
           refine AWp.seq ?_
           refine AWp.start [0, 1, 2] [] [] [0, 6, 12, 13, 14, 26, 27, 28, 45] 0 ⟨[(0, q0 v1), (6, tI v5), (12, .rp (c37 (gD v3 v7))), (13, tI v11.1), (14, .rp [.str v11.2.1.f0, .str v11.2.1.f1, .int .i64 v11.2.1.f2]), (26, q6 v3), (27, tI (v3.length : Int)), (28, tI v7), (45, tB (!v11.2.2))], []⟩ rfl ?_ z0 trivial ?_
           · kernel_rfl
           refine AOps.nil ?_
           refine AWp.cond rfl (fun hb => ?_) fun hb => ?_
           · replace h := of_true h hb
             refine AWp.keepTo [] 0 ⟨[], []⟩ ?_ z0 ?_
             · kernel_rfl
             refine AWp.seq ?_
             refine AWp.start [0, 1, 2] [] [] [6, 7, 8] 0 ⟨[(6, tI (0 : Int)), (7, tS ([] : List UInt8)), (8, tI (5 : Int))], []⟩ rfl ?_ z0 trivial ?_
             · kernel_rfl
             refine AOps.nil ?_
             refine AWp.ret ?_
             cases h
             exact Or.inr ⟨_, rfl, by simp, rfl, rfl⟩
           · replace h := of_false h hb
             refine AWp.keepTo [0, 6, 12, 13, 14, 26, 27, 28] 0 ⟨[(0, q0 v1), (6, tI v5), (12, .rp (c37 (gD v3 v7))), (13, tI v11.1), (14, .rp [.str v11.2.1.f0, .str v11.2.1.f1, .int .i64 v11.2.1.f2]), (26, q6 v3), (27, tI (v3.length : Int)), (28, tI v7)], []⟩ ?_ z0 ?_
             · kernel_rfl
             refine AWp.seq ?_
             obtain ⟨v12, hd, h⟩ := of_bind h
             refine AWp.draw FFm (fun σ => σ = ⟨[(0, q0 v1), (6, tI v5), (12, .rp (c37 (gD v3 v7))), (13, tI v11.1), (14, .rp [.str v11.2.1.f0, .str v11.2.1.f1, .int .i64 v11.2.1.f2]), (26, q6 v3), (27, tI (v3.length : Int)), (28, tI v7), (48, tB v12)], []⟩) (n := 11) rfl (ls := #[n1, n1, n1, n1, n1, n1, n1, n1, n1, n1, n1]) rfl ?_ ?_
             · refine AAny.go (by kernel_rfl) [0, 1, 2, 3] (fuel' := 7) rfl [] #[y1, y1, y1, y1, n1, n1, n1, n1, n1, n1, n1] [0, 6, 12, 13, 14, 26, 27, 28, 52] 0 ⟨[(0, q0 v1), (6, tI v5), (12, .rp (c37 (gD v3 v7))), (13, tI v11.1), (14, .rp [.str v11.2.1.f0, .str v11.2.1.f1, .int .i64 v11.2.1.f2]), (26, q6 v3), (27, tI (v3.length : Int)), (28, tI v7), (52, tB (decide ((gD v3 v7).f1 < (0 : Int))))], []⟩ ?_ z0 trivial ?_
               · kernel_rfl
               refine AAny.split (fun b => ⟨[(0, q0 v1), (6, tI v5), (12, .rp (c37 (gD v3 v7))), (13, tI v11.1), (14, .rp [.str v11.2.1.f0, .str v11.2.1.f1, .int .i64 v11.2.1.f2]), (26, q6 v3), (27, tI (v3.length : Int)), (28, tI v7), (52, tB b)], []⟩) _ (fun hb => ?_) fun hb => ?_
               · replace hd := of_true hd hb
                 refine AAny.go (by kernel_rfl) [4, 5, 6, 7, 8, 9, 10] (fuel' := 0) rfl [] #[y1, y1, y1, y1, y1, y1, y1, y1, y1, y1, y1] [0, 6, 12, 13, 14, 26, 27, 28, 48] 0 ⟨[(0, q0 v1), (6, tI v5), (12, .rp (c37 (gD v3 v7))), (13, tI v11.1), (14, .rp [.str v11.2.1.f0, .str v11.2.1.f1, .int .i64 v11.2.1.f2]), (26, q6 v3), (27, tI (v3.length : Int)), (28, tI v7), (48, tB true)], []⟩ ?_ z0 trivial ?_
                 · kernel_rfl
                 refine AAny.keepTo [0, 6, 12, 13, 14, 26, 27, 28, 48] 0 ⟨[(0, q0 v1), (6, tI v5), (12, .rp (c37 (gD v3 v7))), (13, tI v11.1), (14, .rp [.str v11.2.1.f0, .str v11.2.1.f1, .int .i64 v11.2.1.f2]), (26, q6 v3), (27, tI (v3.length : Int)), (28, tI v7), (48, tB true)], []⟩ _ ?_ rfl z0 (AAny.done (by kernel_rfl) ?_)
                 · kernel_rfl
                 cases hd
                 exact rfl
               · replace hd := of_false hd hb
                 refine AAny.go (by kernel_rfl) [4, 5, 6] (fuel' := 4) rfl [] #[y1, y1, y1, y1, y1, y1, y1, n1, n1, n1, n1] [0, 6, 12, 13, 14, 26, 27, 28, 52, 54, 55] 0 ⟨[(0, q0 v1), (6, tI v5), (12, .rp (c37 (gD v3 v7))), (13, tI v11.1), (14, .rp [.str v11.2.1.f0, .str v11.2.1.f1, .int .i64 v11.2.1.f2]), (26, q6 v3), (27, tI (v3.length : Int)), (28, tI v7), (52, tB false), (54, tI ((gD v3 v7).f1)), (55, .agg [.str v11.2.1.f0, .str v11.2.1.f1, .int .i64 v11.2.1.f2])], []⟩ ?_ z0 trivial ?_
                 · kernel_rfl
                 obtain ⟨v13, hv13, hd⟩ := of_bind hd
                 refine AAny.serial (i := 7) (fuel := 3) (by kernel_rfl) (AOne.callP (F := (FF 74 0)) _ rfl rfl rfl _ rfl rfl _ _ rfl Try.call46 [.agg [.str v11.2.1.f0, .str v11.2.1.f1, .int .i64 v11.2.1.f2]] rfl rfl (f46_ok v11.2.1 hv13) rfl) ?_
                 refine AAny.keepTo [0, 6, 12, 13, 14, 26, 27, 28, 52, 54, 56] 0 ⟨[(0, q0 v1), (6, tI v5), (12, .rp (c37 (gD v3 v7))), (13, tI v11.1), (14, .rp [.str v11.2.1.f0, .str v11.2.1.f1, .int .i64 v11.2.1.f2]), (26, q6 v3), (27, tI (v3.length : Int)), (28, tI v7), (52, tB false), (54, tI ((gD v3 v7).f1)), (56, tI v13)], []⟩ #[y1, y1, y1, y1, y1, y1, y1, y1, n1, n1, n1] ?_ rfl z0 ?_
                 · kernel_rfl
                 refine AAny.go (by kernel_rfl) [8, 9, 10] (fuel' := 0) rfl [] #[y1, y1, y1, y1, y1, y1, y1, y1, y1, y1, y1] [0, 6, 12, 13, 14, 26, 27, 28, 48] 0 ⟨[(0, q0 v1), (6, tI v5), (12, .rp (c37 (gD v3 v7))), (13, tI v11.1), (14, .rp [.str v11.2.1.f0, .str v11.2.1.f1, .int .i64 v11.2.1.f2]), (26, q6 v3), (27, tI (v3.length : Int)), (28, tI v7), (48, tB (decide ((gD v3 v7).f1 ≥ v13)))], []⟩ ?_ z0 trivial ?_
                 · kernel_rfl
                 refine AAny.keepTo [0, 6, 12, 13, 14, 26, 27, 28, 48] 0 ⟨[(0, q0 v1), (6, tI v5), (12, .rp (c37 (gD v3 v7))), (13, tI v11.1), (14, .rp [.str v11.2.1.f0, .str v11.2.1.f1, .int .i64 v11.2.1.f2]), (26, q6 v3), (27, tI (v3.length : Int)), (28, tI v7), (48, tB (decide ((gD v3 v7).f1 ≥ v13)))], []⟩ _ ?_ rfl z0 (AAny.done (by kernel_rfl) ?_)
                 · kernel_rfl
                 cases hd
                 exact rfl
             rintro σ' rfl
             refine AWp.cond rfl (fun hb => ?_) fun hb => ?_
             · replace h := of_true h hb
               refine AWp.keepTo [] 0 ⟨[], []⟩ ?_ z0 ?_
               · kernel_rfl
               refine AWp.seq ?_
               refine AWp.start [0, 1, 2] [] [] [6, 7, 8] 0 ⟨[(6, tI (0 : Int)), (7, tS ([] : List UInt8)), (8, tI (2 : Int))], []⟩ rfl ?_ z0 trivial ?_
               · kernel_rfl
               refine AOps.nil ?_
               refine AWp.ret ?_
               cases h
               exact Or.inr ⟨_, rfl, by simp, rfl, rfl⟩
             · replace h := of_false h hb
               refine AWp.keepTo [0, 6, 12, 13, 14, 26, 27, 28] 0 ⟨[(0, q0 v1), (6, tI v5), (12, .rp (c37 (gD v3 v7))), (13, tI v11.1), (14, .rp [.str v11.2.1.f0, .str v11.2.1.f1, .int .i64 v11.2.1.f2]), (26, q6 v3), (27, tI (v3.length : Int)), (28, tI v7)], []⟩ ?_ z0 ?_
               · kernel_rfl
               refine AWp.skip ?_
               refine AWp.seq ?_
               refine AWp.draw FFm _ (n := 11) rfl (ls := #[n1, n1, n1, n1, n1, n1, n1, n1, n1, n1, n1]) rfl ?_ (fun _ h => h)
               refine AAny.go (by kernel_rfl) [0, 1, 2, 3, 4, 5] (fuel' := 5) rfl [] #[y1, y1, y1, y1, y1, y1, n1, n1, n1, n1, n1] [0, 6, 14, 26, 27, 28, 59, 60, 62, 63, 64] 0 ⟨[(0, q0 v1), (6, tI v5), (14, .rp [.str v11.2.1.f0, .str v11.2.1.f1, .int .i64 v11.2.1.f2]), (26, q6 v3), (27, tI (v3.length : Int)), (28, tI v7), (59, tI v5), (60, tI v11.1), (62, tI ((gD v3 v7).f1)), (63, q0 v1), (64, .agg [.str v11.2.1.f0, .str v11.2.1.f1, .int .i64 v11.2.1.f2])], []⟩ ?_ z0 trivial ?_
               · kernel_rfl
               obtain ⟨v14, hv14, h⟩ := of_bind h
               refine AAny.serial (i := 6) (fuel := 4) (by kernel_rfl) (AOne.callP (F := (FF 74 0)) _ rfl rfl rfl _ rfl rfl _ _ rfl Try.call47 [q0 v1, .agg [.str v11.2.1.f0, .str v11.2.1.f1, .int .i64 v11.2.1.f2]] rfl rfl (f47_ok v1 v11.2.1 hv14) rfl) ?_
               refine AAny.keepTo [0, 6, 14, 26, 27, 28, 59, 60, 62, 65] 0 ⟨[(0, q0 v1), (6, tI v5), (14, .rp [.str v11.2.1.f0, .str v11.2.1.f1, .int .i64 v11.2.1.f2]), (26, q6 v3), (27, tI (v3.length : Int)), (28, tI v7), (59, tI v5), (60, tI v11.1), (62, tI ((gD v3 v7).f1)), (65, tI v14)], []⟩ #[y1, y1, y1, y1, y1, y1, y1, n1, n1, n1, n1] ?_ rfl z0 ?_
               · kernel_rfl
               refine AAny.go (by kernel_rfl) [7, 8, 9, 10] (fuel' := 0) rfl [] #[y1, y1, y1, y1, y1, y1, y1, y1, y1, y1, y1] [0, 6, 14, 26, 27, 28] 0 ⟨[(0, q0 v1), (6, tI (w64 (v5 + (w64 (v11.1 + (w64 (((gD v3 v7).f1) * v14))))))), (14, .rp [.str v11.2.1.f0, .str v11.2.1.f1, .int .i64 v11.2.1.f2]), (26, q6 v3), (27, tI (v3.length : Int)), (28, tI v7)], []⟩ ?_ z0 trivial ?_
               · kernel_rfl
               refine AAny.keepTo [0, 6, 14, 26, 27, 28] 0 ⟨[(0, q0 v1), (6, tI (w64 (v5 + (w64 (v11.1 + (w64 (((gD v3 v7).f1) * v14))))))), (14, .rp [.str v11.2.1.f0, .str v11.2.1.f1, .int .i64 v11.2.1.f2]), (26, q6 v3), (27, tI (v3.length : Int)), (28, tI v7)], []⟩ _ ?_ rfl z0 (AAny.done (by kernel_rfl) ?_)
               · kernel_rfl
               refine AWp.start [0, 1, 2] [] [] [0, 6, 7, 26, 27, 28] 0 ⟨[(0, q0 v1), (6, tI (w64 (v5 + (w64 (v11.1 + (w64 (((gD v3 v7).f1) * v14))))))), (7, tS v11.2.1.f1), (26, q6 v3), (27, tI (v3.length : Int)), (28, tI v7)], []⟩ rfl ?_ z0 trivial ?_
               · kernel_rfl
               refine AOps.nil ?_
               refine AWp.start [0, 1] [] [] [0, 6, 7, 26, 27, 28] 0 ⟨[(0, q0 v1), (6, tI (w64 (v5 + (w64 (v11.1 + (w64 (((gD v3 v7).f1) * v14))))))), (7, tS v11.2.1.f1), (26, q6 v3), (27, tI (v3.length : Int)), (28, tI (w64 (v7 + (1 : Int))))], []⟩ rfl ?_ z0 trivial ?_
               · kernel_rfl
               refine AOps.nil ?_
               cases h
               exact Or.inl ⟨_, rfl, rfl, rfl⟩
         refine AAny.share 2 #[y1, y1, y1, y1, y1, y1, y1, y1, y1, y1, y1, y1, y1, n1, n1] ⟨[(0, q0 v1), (6, tI v5), (12, .rp (c37 (gD v3 v7))), (13, tI v11.1), (14, .pc 0 0), (26, q6 v3), (27, tI (v3.length : Int)), (28, tI v7), (43, .agg [.str v11.2.1.f0, .str v11.2.1.f1, .int .i64 v11.2.1.f2]), (44, tB v11.2.2)], [.cells 36 [.str ([] : List UInt8), .str ([] : List UInt8), .int .i64 (0 : Int)]]⟩ ?_ fun n4_ => ?_
         · refine AAny.each [13] (by kernel_rfl) rfl ?_
           refine AEach.step (i := 13) [] #[y1, y1, y1, y1, y1, y1, y1, y1, y1, y1, y1, y1, y1, y1, n1] rfl [0, 6, 12, 13, 14, 26, 27, 28, 44] 1 ⟨[(0, q0 v1), (6, tI v5), (12, .rp (c37 (gD v3 v7))), (13, tI v11.1), (14, .pc 0 0), (26, q6 v3), (27, tI (v3.length : Int)), (28, tI v7), (44, tB v11.2.2)], [.cells 36 [.str v11.2.1.f0, .str v11.2.1.f1, .int .i64 v11.2.1.f2]]⟩ ?_ z0 trivial ?_ ?_
           · kernel_rfl
           · refine AAny.go (by kernel_rfl) [14] (fuel' := 0) rfl [] #[y1, y1, y1, y1, y1, y1, y1, y1, y1, y1, y1, y1, y1, y1, y1] [0, 6, 12, 13, 14, 15, 26, 27, 28] 1 ⟨[(0, q0 v1), (6, tI v5), (12, .rp (c37 (gD v3 v7))), (13, tI v11.1), (14, .pc 0 0), (15, tB v11.2.2), (26, q6 v3), (27, tI (v3.length : Int)), (28, tI v7)], [.cells 36 [.str v11.2.1.f0, .str v11.2.1.f1, .int .i64 v11.2.1.f2]]⟩ ?_ z0 trivial ?_
             · kernel_rfl
             exact n5_
           exact AEach.nil
         refine AAny.share 4 #[y1, y1, y1, y1, y1, y1, y1, y1, y1, y1, y1, n1, n1, n1, n1] ⟨[(0, q0 v1), (6, tI v5), (12, .rp (c37 (gD v3 v7))), (26, q6 v3), (27, tI (v3.length : Int)), (28, tI v7), (42, tI v11.1), (43, .agg [.str v11.2.1.f0, .str v11.2.1.f1, .int .i64 v11.2.1.f2]), (44, tB v11.2.2)], []⟩ ?_ fun n6_ => ?_
         · refine AAny.each [11] (by kernel_rfl) rfl ?_
           refine AEach.step (i := 11) [] #[y1, y1, y1, y1, y1, y1, y1, y1, y1, y1, y1, y1, n1, n1, n1] rfl [0, 6, 12, 14, 26, 27, 28, 42, 43, 44] 1 ⟨[(0, q0 v1), (6, tI v5), (12, .rp (c37 (gD v3 v7))), (14, .pc 0 0), (26, q6 v3), (27, tI (v3.length : Int)), (28, tI v7), (42, tI v11.1), (43, .agg [.str v11.2.1.f0, .str v11.2.1.f1, .int .i64 v11.2.1.f2]), (44, tB v11.2.2)], [.cells 36 [.str ([] : List UInt8), .str ([] : List UInt8), .int .i64 (0 : Int)]]⟩ ?_ z0 trivial ?_ ?_
           · kernel_rfl
           · refine AAny.go (by kernel_rfl) [12] (fuel' := 2) rfl [] #[y1, y1, y1, y1, y1, y1, y1, y1, y1, y1, y1, y1, y1, n1, n1] [0, 6, 12, 13, 14, 26, 27, 28, 43, 44] 1 ⟨[(0, q0 v1), (6, tI v5), (12, .rp (c37 (gD v3 v7))), (13, tI v11.1), (14, .pc 0 0), (26, q6 v3), (27, tI (v3.length : Int)), (28, tI v7), (43, .agg [.str v11.2.1.f0, .str v11.2.1.f1, .int .i64 v11.2.1.f2]), (44, tB v11.2.2)], [.cells 36 [.str ([] : List UInt8), .str ([] : List UInt8), .int .i64 (0 : Int)]]⟩ ?_ z0 trivial ?_
             · kernel_rfl
             exact n4_
           exact AEach.nil
         refine AAny.share 8 #[y1, y1, y1, y1, y1, y1, n1, n1, n1, n1, n1, y1, n1, n1, n1] ⟨[(0, q0 v1), (6, tI v5), (12, .rp (c37 (gD v3 v7))), (14, .pc 0 0), (26, q6 v3), (27, tI (v3.length : Int)), (28, tI v7), (35, q0 v1), (38, tI v10), (40, tS ((gD v3 v7).f0))], [.cells 36 [.str ([] : List UInt8), .str ([] : List UInt8), .int .i64 (0 : Int)]]⟩ ?_ fun n3_ => ?_
         · refine AAny.each [6] (by kernel_rfl) rfl ?_
           refine AEach.one (i := 6) (AOne.callP (F := (FF 74 0)) _ rfl rfl rfl _ rfl rfl _ _ rfl Try.call44 [q0 v1, tI v10, tS ((gD v3 v7).f0)] rfl rfl (f44_ok v1 v10 ((gD v3 v7).f0) hv11) rfl) ?_ ?_
           · refine AAny.keepTo [0, 6, 12, 14, 26, 27, 28, 41] 1 ⟨[(0, q0 v1), (6, tI v5), (12, .rp (c37 (gD v3 v7))), (14, .pc 0 0), (26, q6 v3), (27, tI (v3.length : Int)), (28, tI v7), (41, .tup [tI v11.1, .agg [.str v11.2.1.f0, .str v11.2.1.f1, .int .i64 v11.2.1.f2], tB v11.2.2])], [.cells 36 [.str ([] : List UInt8), .str ([] : List UInt8), .int .i64 (0 : Int)]]⟩ #[y1, y1, y1, y1, y1, y1, y1, n1, n1, n1, n1, y1, n1, n1, n1] ?_ rfl z0 ?_
             · kernel_rfl
             refine AAny.go (by kernel_rfl) [7, 8, 9, 10, 12] (fuel' := 2) rfl [] #[y1, y1, y1, y1, y1, y1, y1, y1, y1, y1, y1, y1, y1, n1, n1] [0, 6, 12, 13, 14, 26, 27, 28, 43, 44] 1 ⟨[(0, q0 v1), (6, tI v5), (12, .rp (c37 (gD v3 v7))), (13, tI v11.1), (14, .pc 0 0), (26, q6 v3), (27, tI (v3.length : Int)), (28, tI v7), (43, .agg [.str v11.2.1.f0, .str v11.2.1.f1, .int .i64 v11.2.1.f2]), (44, tB v11.2.2)], [.cells 36 [.str ([] : List UInt8), .str ([] : List UInt8), .int .i64 (0 : Int)]]⟩ ?_ z0 trivial ?_
             · kernel_rfl
             exact n4_
           exact AEach.nil
         refine AAny.share 9 #[y1, y1, y1, n1, y1, y1, n1, n1, n1, n1, n1, y1, n1, n1, n1] ⟨[(0, q0 v1), (6, tI v5), (12, .rp (c37 (gD v3 v7))), (14, .pc 0 0), (26, q6 v3), (27, tI (v3.length : Int)), (28, tI v7), (35, q0 v1), (36, q0 v1), (37, tS v6), (40, tS ((gD v3 v7).f0))], [.cells 36 [.str ([] : List UInt8), .str ([] : List UInt8), .int .i64 (0 : Int)]]⟩ ?_ fun n2_ => ?_
         · refine AAny.each [3] (by kernel_rfl) rfl ?_
           refine AEach.one (i := 3) (AOne.callP (F := (FF 74 0)) _ rfl rfl rfl _ rfl rfl _ _ rfl Try.call45 [q0 v1, tS v6] rfl rfl (f45_ok v1 v6 hv10) rfl) ?_ ?_
           · refine AAny.keepTo [0, 6, 12, 14, 26, 27, 28, 35, 38, 40] 1 ⟨[(0, q0 v1), (6, tI v5), (12, .rp (c37 (gD v3 v7))), (14, .pc 0 0), (26, q6 v3), (27, tI (v3.length : Int)), (28, tI v7), (35, q0 v1), (38, tI v10), (40, tS ((gD v3 v7).f0))], [.cells 36 [.str ([] : List UInt8), .str ([] : List UInt8), .int .i64 (0 : Int)]]⟩ #[y1, y1, y1, y1, y1, y1, n1, n1, n1, n1, n1, y1, n1, n1, n1] ?_ rfl z0 ?_
             · kernel_rfl
             exact n3_
           exact AEach.nil
         refine AAny.share 9 #[y1, y1, y1, y1, y1, y1, n1, n1, n1, n1, n1, n1, n1, n1, n1] ⟨[(0, q0 v1), (6, tI v5), (12, .rp (c37 (gD v3 v7))), (26, q6 v3), (27, tI (v3.length : Int)), (28, tI v7), (35, q0 v1), (38, tI v10), (40, tS ((gD v3 v7).f0))], []⟩ ?_ fun n1_ => ?_
         · refine AAny.each [6, 11] (by kernel_rfl) rfl ?_
           refine AEach.one (i := 6) (AOne.callP (F := (FF 74 0)) _ rfl rfl rfl _ rfl rfl _ _ rfl Try.call44 [q0 v1, tI v10, tS ((gD v3 v7).f0)] rfl rfl (f44_ok v1 v10 ((gD v3 v7).f0) hv11) rfl) ?_ ?_
           · refine AAny.keepTo [0, 6, 12, 26, 27, 28, 41] 0 ⟨[(0, q0 v1), (6, tI v5), (12, .rp (c37 (gD v3 v7))), (26, q6 v3), (27, tI (v3.length : Int)), (28, tI v7), (41, .tup [tI v11.1, .agg [.str v11.2.1.f0, .str v11.2.1.f1, .int .i64 v11.2.1.f2], tB v11.2.2])], []⟩ #[y1, y1, y1, y1, y1, y1, y1, n1, n1, n1, n1, n1, n1, n1, n1] ?_ rfl z0 ?_
             · kernel_rfl
             refine AAny.go (by kernel_rfl) [7, 8, 9, 10] (fuel' := 4) rfl [] #[y1, y1, y1, y1, y1, y1, y1, y1, y1, y1, y1, n1, n1, n1, n1] [0, 6, 12, 26, 27, 28, 42, 43, 44] 0 ⟨[(0, q0 v1), (6, tI v5), (12, .rp (c37 (gD v3 v7))), (26, q6 v3), (27, tI (v3.length : Int)), (28, tI v7), (42, tI v11.1), (43, .agg [.str v11.2.1.f0, .str v11.2.1.f1, .int .i64 v11.2.1.f2]), (44, tB v11.2.2)], []⟩ ?_ z0 trivial ?_
             · kernel_rfl
             exact n6_
           refine AEach.step (i := 11) [] #[y1, y1, y1, y1, y1, y1, n1, n1, n1, n1, n1, y1, n1, n1, n1] rfl [0, 6, 12, 14, 26, 27, 28, 35, 38, 40] 1 ⟨[(0, q0 v1), (6, tI v5), (12, .rp (c37 (gD v3 v7))), (14, .pc 0 0), (26, q6 v3), (27, tI (v3.length : Int)), (28, tI v7), (35, q0 v1), (38, tI v10), (40, tS ((gD v3 v7).f0))], [.cells 36 [.str ([] : List UInt8), .str ([] : List UInt8), .int .i64 (0 : Int)]]⟩ ?_ z0 trivial ?_ ?_
           · kernel_rfl
           · exact n3_
           exact AEach.nil
         refine AAny.each [3, 11] (by kernel_rfl) rfl ?_
         refine AEach.one (i := 3) (AOne.callP (F := (FF 74 0)) _ rfl rfl rfl _ rfl rfl _ _ rfl Try.call45 [q0 v1, tS v6] rfl rfl (f45_ok v1 v6 hv10) rfl) ?_ ?_
         · refine AAny.keepTo [0, 6, 12, 26, 27, 28, 35, 38, 40] 0 ⟨[(0, q0 v1), (6, tI v5), (12, .rp (c37 (gD v3 v7))), (26, q6 v3), (27, tI (v3.length : Int)), (28, tI v7), (35, q0 v1), (38, tI v10), (40, tS ((gD v3 v7).f0))], []⟩ #[y1, y1, y1, y1, y1, y1, n1, n1, n1, n1, n1, n1, n1, n1, n1] ?_ rfl z0 ?_
           · kernel_rfl
           exact n1_
         refine AEach.step (i := 11) [] #[y1, y1, y1, n1, y1, y1, n1, n1, n1, n1, n1, y1, n1, n1, n1] rfl [0, 6, 12, 14, 26, 27, 28, 35, 36, 37, 40] 1 ⟨[(0, q0 v1), (6, tI v5), (12, .rp (c37 (gD v3 v7))), (14, .pc 0 0), (26, q6 v3), (27, tI (v3.length : Int)), (28, tI v7), (35, q0 v1), (36, q0 v1), (37, tS v6), (40, tS ((gD v3 v7).f0))], [.cells 36 [.str ([] : List UInt8), .str ([] : List UInt8), .int .i64 (0 : Int)]]⟩ ?_ z0 trivial ?_ ?_
         · kernel_rfl
         · exact n2_
         exact AEach.nil
     · replace h := of_false h hb
       refine AWp.keepTo [6, 7] 0 ⟨[(6, tI v5), (7, tS v6)], []⟩ ?_ z0 ?_
       · kernel_rfl
       refine AWp.exit ?_
       cases h
       exact Or.inr ⟨_, rfl, by simp, rfl, rfl⟩
   · intro e σ hp
     rcases y with v15 | ⟨v8, v9⟩
     · obtain ⟨rfl, rfl⟩ := hp
       cases h
       exact ⟨.inr rfl, rfl⟩
     · obtain ⟨rfl, rfl⟩ := hp
       refine AWp.seq ?_
       refine AWp.start [0, 1, 2, 3, 4] [] [] [6, 7, 8] 0 ⟨[(6, tI v8), (7, tS v9), (8, tI (0 : Int))], []⟩ rfl ?_ z0 trivial ?_
       · kernel_rfl
       refine AOps.nil ?_
       refine AWp.ret ?_
       cases h
       exact ⟨.inr rfl, rfl⟩

noncomputable def f13  : Option Bool :=
 (f19 ([T62.mk ([97] : List UInt8) ([] : List UInt8) false ([T35.mk ([120] : List UInt8) ([] : List UInt8) (0 : Int)]) ([] : List T94) ([] : List UInt8), T62.mk ([98] : List UInt8) ([97] : List UInt8) false ([T35.mk ([121] : List UInt8) ([97] : List UInt8) (2 : Int)]) ([] : List T94) ([] : List UInt8)]) ([98] : List UInt8)).bind fun v1 => (f16 ([T62.mk ([97] : List UInt8) ([] : List UInt8) false ([T35.mk ([120] : List UInt8) ([] : List UInt8) (0 : Int)]) ([] : List T94) ([] : List UInt8), T62.mk ([98] : List UInt8) ([97] : List UInt8) false ([T35.mk ([121] : List UInt8) ([97] : List UInt8) (2 : Int)]) ([] : List T94) ([] : List UInt8)]) ([98] : List UInt8) ([T37.mk ([120] : List UInt8) (0 : Int)])).bind fun v2 => (cond (v1.1 == (3 : Int)) (some (v1.2 == (0 : Int))) (some false)).bind fun v3 => (cond v3 (some (v2.1 == (0 : Int))) (some false)).bind fun v4 => (cond v4 (some (v2.2.2 == (0 : Int))) (some false)).bind fun v5 => some v5

theorem f13_ok  {r : Bool} (h : f13  = some r) : ACall Try.prog 13 [] [] (.tv (.bool r)) [] := by
 refine ACall.of1 (FF 41 0) Try.func13 rfl Try.ntmps13 Try.results13 (Nat.le_of_ble_eq_true rfl) rfl rfl ?_
 refine AWp.seq ?_
 refine AWp.start [0] [] [] [] 0 ⟨[], []⟩ rfl ?_ z0 trivial ?_
 · kernel_rfl
 refine AOps.nil ?_
 refine AWp.seq ?_
 refine AWp.start [0, 1] [2, 3, 4, 5, 6, 7] [] [8] 0 ⟨[(8, .tv (.own 3 36 1 (newRowF [.str ([120] : List UInt8), .str ([] : List UInt8), .int .i64 (0 : Int)] 3)))], []⟩ rfl ?_ z0 trivial ?_
 · kernel_rfl
 refine AOps.extL 8 c35 ([T35.mk ([120] : List UInt8) ([] : List UInt8) (0 : Int)]) rfl rfl (row_at c35 3 (fun _ => rfl) [T35.mk ([120] : List UInt8) ([] : List UInt8) (0 : Int)] _ rfl) ?_
 refine AOps.freezeL 8 c35 ([T35.mk ([120] : List UInt8) ([] : List UInt8) (0 : Int)]) rfl (fun _ => rfl) ?_
 refine AOps.go [2, 3, 4] [5, 6, 7] [] [9, 11] 0 ⟨[(9, .agg [.str ([97] : List UInt8), .str ([] : List UInt8), .bool false, k1 ([T35.mk ([120] : List UInt8) ([] : List UInt8) (0 : Int)]), nS, .str ([] : List UInt8)]), (11, .tv (.own 3 36 1 (newRowF [.str ([121] : List UInt8), .str ([97] : List UInt8), .int .i64 (2 : Int)] 3)))], []⟩ ?_ z0 trivial ?_
 · kernel_rfl
 refine AOps.extL 11 c35 ([T35.mk ([121] : List UInt8) ([97] : List UInt8) (2 : Int)]) rfl rfl (row_at c35 3 (fun _ => rfl) [T35.mk ([121] : List UInt8) ([97] : List UInt8) (2 : Int)] _ rfl) ?_
 refine AOps.freezeL 11 c35 ([T35.mk ([121] : List UInt8) ([97] : List UInt8) (2 : Int)]) rfl (fun _ => rfl) ?_
 refine AOps.go [5, 6] [7] [] [13] 0 ⟨[(13, .tv (.own 6 63 2 (newRowF [.str ([97] : List UInt8), .str ([] : List UInt8), .bool false, k1 ([T35.mk ([120] : List UInt8) ([] : List UInt8) (0 : Int)]), nS, .str ([] : List UInt8), .str ([98] : List UInt8), .str ([97] : List UInt8), .bool false, k1 ([T35.mk ([121] : List UInt8) ([97] : List UInt8) (2 : Int)]), nS, .str ([] : List UInt8)] 6)))], []⟩ ?_ z0 trivial ?_
 · kernel_rfl
 refine AOps.nilRow 13 (cs' := [.str ([97] : List UInt8), .str ([] : List UInt8), .bool false, k1 ([T35.mk ([120] : List UInt8) ([] : List UInt8) (0 : Int)]), k3 ([] : List T94), .str ([] : List UInt8), .str ([98] : List UInt8), .str ([97] : List UInt8), .bool false, k1 ([T35.mk ([121] : List UInt8) ([97] : List UInt8) (2 : Int)]), k3 ([] : List T94), .str ([] : List UInt8)]) rfl (.keep (.keep (.keep (.keep (.nil (.keep (.keep (.keep (.keep (.keep (.nil (.keep .done)))))))))))) ?_
 refine AOps.extL 13 c62 ([T62.mk ([97] : List UInt8) ([] : List UInt8) false ([T35.mk ([120] : List UInt8) ([] : List UInt8) (0 : Int)]) ([] : List T94) ([] : List UInt8), T62.mk ([98] : List UInt8) ([97] : List UInt8) false ([T35.mk ([121] : List UInt8) ([97] : List UInt8) (2 : Int)]) ([] : List T94) ([] : List UInt8)]) rfl rfl (row_at c62 6 (fun _ => rfl) [T62.mk ([97] : List UInt8) ([] : List UInt8) false ([T35.mk ([120] : List UInt8) ([] : List UInt8) (0 : Int)]) ([] : List T94) ([] : List UInt8), T62.mk ([98] : List UInt8) ([97] : List UInt8) false ([T35.mk ([121] : List UInt8) ([97] : List UInt8) (2 : Int)]) ([] : List T94) ([] : List UInt8)] _ rfl) ?_
 refine AOps.go [7] [] [] [1] 0 ⟨[(1, .tv (ownL 6 63 c62 ([T62.mk ([97] : List UInt8) ([] : List UInt8) false ([T35.mk ([120] : List UInt8) ([] : List UInt8) (0 : Int)]) ([] : List T94) ([] : List UInt8), T62.mk ([98] : List UInt8) ([97] : List UInt8) false ([T35.mk ([121] : List UInt8) ([97] : List UInt8) (2 : Int)]) ([] : List T94) ([] : List UInt8)])))], []⟩ ?_ z0 trivial ?_
 · kernel_rfl
 refine AOps.nil ?_
 refine AWp.seq ?_
 refine AWp.start [0] [1, 2, 3, 4, 5, 6] [] [1, 15] 0 ⟨[(1, .tv (ownL 6 63 c62 ([T62.mk ([97] : List UInt8) ([] : List UInt8) false ([T35.mk ([120] : List UInt8) ([] : List UInt8) (0 : Int)]) ([] : List T94) ([] : List UInt8), T62.mk ([98] : List UInt8) ([97] : List UInt8) false ([T35.mk ([121] : List UInt8) ([97] : List UInt8) (2 : Int)]) ([] : List T94) ([] : List UInt8)]))), (15, .al (.slot 1 0, []))], []⟩ rfl ?_ z0 trivial ?_
 · kernel_rfl
 obtain ⟨v1, hv1, h⟩ := of_bind h
 refine AOps.cons (AOne.callR (F := (FF 41 0)) _ rfl rfl rfl _ rfl rfl _ _ rfl Try.call19 [PlainTo (([T62.mk ([97] : List UInt8) ([] : List UInt8) false ([T35.mk ([120] : List UInt8) ([] : List UInt8) (0 : Int)]) ([] : List T94) ([] : List UInt8), T62.mk ([98] : List UInt8) ([97] : List UInt8) false ([T35.mk ([121] : List UInt8) ([97] : List UInt8) (2 : Int)]) ([] : List T94) ([] : List UInt8)]).length) (fun i => c62 (([T62.mk ([97] : List UInt8) ([] : List UInt8) false ([T35.mk ([120] : List UInt8) ([] : List UInt8) (0 : Int)]) ([] : List T94) ([] : List UInt8), T62.mk ([98] : List UInt8) ([97] : List UInt8) false ([T35.mk ([121] : List UInt8) ([97] : List UInt8) (2 : Int)]) ([] : List T94) ([] : List UInt8)]).getD i default))] [q0 ([T62.mk ([97] : List UInt8) ([] : List UInt8) false ([T35.mk ([120] : List UInt8) ([] : List UInt8) (0 : Int)]) ([] : List T94) ([] : List UInt8), T62.mk ([98] : List UInt8) ([97] : List UInt8) false ([T35.mk ([121] : List UInt8) ([97] : List UInt8) (2 : Int)]) ([] : List T94) ([] : List UInt8)]), tS ([98] : List UInt8)] rfl (fun _ _ => rfl) (f19_ok ([T62.mk ([97] : List UInt8) ([] : List UInt8) false ([T35.mk ([120] : List UInt8) ([] : List UInt8) (0 : Int)]) ([] : List T94) ([] : List UInt8), T62.mk ([98] : List UInt8) ([97] : List UInt8) false ([T35.mk ([121] : List UInt8) ([97] : List UInt8) (2 : Int)]) ([] : List T94) ([] : List UInt8)]) ([98] : List UInt8) hv1) (ind_of rfl) rfl) ?_
 refine AOps.go [2, 3, 4, 5, 6] [] [] [1, 2, 3] 0 ⟨[(1, .tv (ownL 6 63 c62 ([T62.mk ([97] : List UInt8) ([] : List UInt8) false ([T35.mk ([120] : List UInt8) ([] : List UInt8) (0 : Int)]) ([] : List T94) ([] : List UInt8), T62.mk ([98] : List UInt8) ([97] : List UInt8) false ([T35.mk ([121] : List UInt8) ([97] : List UInt8) (2 : Int)]) ([] : List T94) ([] : List UInt8)]))), (2, tI v1.1), (3, tI v1.2)], []⟩ ?_ z0 trivial ?_
 · kernel_rfl
 refine AOps.nil ?_
 refine AWp.seq ?_
 refine AWp.start [0, 1, 2] [3, 4, 5, 6, 7, 8, 9, 10] [] [1, 2, 3, 20, 22] 0 ⟨[(1, .tv (ownL 6 63 c62 ([T62.mk ([97] : List UInt8) ([] : List UInt8) false ([T35.mk ([120] : List UInt8) ([] : List UInt8) (0 : Int)]) ([] : List T94) ([] : List UInt8), T62.mk ([98] : List UInt8) ([97] : List UInt8) false ([T35.mk ([121] : List UInt8) ([97] : List UInt8) (2 : Int)]) ([] : List T94) ([] : List UInt8)]))), (2, tI v1.1), (3, tI v1.2), (20, .al (.slot 1 0, [])), (22, .tv (.own 2 38 1 (newRowF [.str ([120] : List UInt8), .int .i64 (0 : Int)] 2)))], []⟩ rfl ?_ z0 trivial ?_
 · kernel_rfl
 refine AOps.extL 22 c37 ([T37.mk ([120] : List UInt8) (0 : Int)]) rfl rfl (row_at c37 2 (fun _ => rfl) [T37.mk ([120] : List UInt8) (0 : Int)] _ rfl) ?_
 refine AOps.freezeL 22 c37 ([T37.mk ([120] : List UInt8) (0 : Int)]) rfl (fun _ => rfl) ?_
 obtain ⟨v2, hv2, h⟩ := of_bind h
 refine AOps.cons (AOne.callR (F := (FF 41 0)) _ rfl rfl rfl _ rfl rfl _ _ rfl Try.call16 [PlainTo (([T62.mk ([97] : List UInt8) ([] : List UInt8) false ([T35.mk ([120] : List UInt8) ([] : List UInt8) (0 : Int)]) ([] : List T94) ([] : List UInt8), T62.mk ([98] : List UInt8) ([97] : List UInt8) false ([T35.mk ([121] : List UInt8) ([97] : List UInt8) (2 : Int)]) ([] : List T94) ([] : List UInt8)]).length) (fun i => c62 (([T62.mk ([97] : List UInt8) ([] : List UInt8) false ([T35.mk ([120] : List UInt8) ([] : List UInt8) (0 : Int)]) ([] : List T94) ([] : List UInt8), T62.mk ([98] : List UInt8) ([97] : List UInt8) false ([T35.mk ([121] : List UInt8) ([97] : List UInt8) (2 : Int)]) ([] : List T94) ([] : List UInt8)]).getD i default))] [q0 ([T62.mk ([97] : List UInt8) ([] : List UInt8) false ([T35.mk ([120] : List UInt8) ([] : List UInt8) (0 : Int)]) ([] : List T94) ([] : List UInt8), T62.mk ([98] : List UInt8) ([97] : List UInt8) false ([T35.mk ([121] : List UInt8) ([97] : List UInt8) (2 : Int)]) ([] : List T94) ([] : List UInt8)]), tS ([98] : List UInt8), q6 ([T37.mk ([120] : List UInt8) (0 : Int)])] rfl (fun _ _ => rfl) (f16_ok ([T62.mk ([97] : List UInt8) ([] : List UInt8) false ([T35.mk ([120] : List UInt8) ([] : List UInt8) (0 : Int)]) ([] : List T94) ([] : List UInt8), T62.mk ([98] : List UInt8) ([97] : List UInt8) false ([T35.mk ([121] : List UInt8) ([97] : List UInt8) (2 : Int)]) ([] : List T94) ([] : List UInt8)]) ([98] : List UInt8) ([T37.mk ([120] : List UInt8) (0 : Int)]) hv2) (ind_of rfl) rfl) ?_
 refine AOps.go [4, 5, 6, 7, 8, 9, 10] [] [] [2, 3, 4, 6] 0 ⟨[(2, tI v1.1), (3, tI v1.2), (4, tI v2.1), (6, tI v2.2.2)], []⟩ ?_ z0 trivial ?_
 · kernel_rfl
 refine AOps.nil ?_
 refine AWp.seq ?_
 refine AWp.start [0, 1, 2] [3, 4, 5, 6, 7, 8, 9, 10, 11, 12, 13, 14] [] [3, 4, 6, 29] 0 ⟨[(3, tI v1.2), (4, tI v2.1), (6, tI v2.2.2), (29, tB (v1.1 == (3 : Int)))], []⟩ rfl ?_ z0 trivial ?_
 · kernel_rfl
 obtain ⟨v3, hc3, h⟩ := of_bind h
 refine AOps.cut [3, 4, 5] [6, 7, 8, 9, 10, 11, 12, 13, 14] (fun σ => σ = ⟨[(4, tI v2.1), (6, tI v2.2.2), (32, tB v3)], []⟩) ?_ fun σ' hJ => ?_
 · refine AOps.split (fun b => ⟨[(3, tI v1.2), (4, tI v2.1), (6, tI v2.2.2), (29, tB b)], []⟩) _ (fun hb => ?_) fun hb => ?_
   · replace hc3 := of_true hc3 hb
     refine AOps.go [3, 4, 5] [] [] [4, 6, 32] 0 ⟨[(4, tI v2.1), (6, tI v2.2.2), (32, tB (v1.2 == (0 : Int)))], []⟩ ?_ z0 trivial ?_
     · kernel_rfl
     cases hc3
     exact AOps.nil rfl
   · replace hc3 := of_false hc3 hb
     refine AOps.go [3, 4, 5] [] [] [4, 6, 32] 0 ⟨[(4, tI v2.1), (6, tI v2.2.2), (32, tB false)], []⟩ ?_ z0 trivial ?_
     · kernel_rfl
     cases hc3
     exact AOps.nil rfl
 subst hJ
 refine AOps.go [6] [7, 8, 9, 10, 11, 12, 13, 14] [] [4, 6, 33] 0 ⟨[(4, tI v2.1), (6, tI v2.2.2), (33, tB v3)], []⟩ ?_ z0 trivial ?_
 · kernel_rfl
 obtain ⟨v4, hc7, h⟩ := of_bind h
 refine AOps.cut [7, 8, 9] [10, 11, 12, 13, 14] (fun σ => σ = ⟨[(6, tI v2.2.2), (36, tB v4)], []⟩) ?_ fun σ' hJ => ?_
 · refine AOps.split (fun b => ⟨[(4, tI v2.1), (6, tI v2.2.2), (33, tB b)], []⟩) _ (fun hb => ?_) fun hb => ?_
   · replace hc7 := of_true hc7 hb
     refine AOps.go [7, 8, 9] [] [] [6, 36] 0 ⟨[(6, tI v2.2.2), (36, tB (v2.1 == (0 : Int)))], []⟩ ?_ z0 trivial ?_
     · kernel_rfl
     cases hc7
     exact AOps.nil rfl
   · replace hc7 := of_false hc7 hb
     refine AOps.go [7, 8, 9] [] [] [6, 36] 0 ⟨[(6, tI v2.2.2), (36, tB false)], []⟩ ?_ z0 trivial ?_
     · kernel_rfl
     cases hc7
     exact AOps.nil rfl
 subst hJ
 refine AOps.go [10] [11, 12, 13, 14] [] [6, 37] 0 ⟨[(6, tI v2.2.2), (37, tB v4)], []⟩ ?_ z0 trivial ?_
 · kernel_rfl
 obtain ⟨v5, hc11, h⟩ := of_bind h
 refine AOps.cut [11, 12, 13] [14] (fun σ => σ = ⟨[(40, tB v5)], []⟩) ?_ fun σ' hJ => ?_
 · refine AOps.split (fun b => ⟨[(6, tI v2.2.2), (37, tB b)], []⟩) _ (fun hb => ?_) fun hb => ?_
   · replace hc11 := of_true hc11 hb
     refine AOps.go [11, 12, 13] [] [] [40] 0 ⟨[(40, tB (v2.2.2 == (0 : Int)))], []⟩ ?_ z0 trivial ?_
     · kernel_rfl
     cases hc11
     exact AOps.nil rfl
   · replace hc11 := of_false hc11 hb
     refine AOps.go [11, 12, 13] [] [] [40] 0 ⟨[(40, tB false)], []⟩ ?_ z0 trivial ?_
     · kernel_rfl
     cases hc11
     exact AOps.nil rfl
 subst hJ
 refine AOps.go [14] [] [] [0] 0 ⟨[(0, tB v5)], []⟩ ?_ z0 trivial ?_
 · kernel_rfl
 refine AOps.nil ?_
 refine AWp.ret ?_
 cases h
 exact ⟨.inr rfl, rfl⟩

noncomputable def f64_b1 (rc : (List T62) → Int → Int → Option (List T37)) (v1 : List T62) (v2 : Int) (v3 : Int) (v7 : Int) (v8 : Int) (v10 : Int) (v11 : List T37) (v12 : Int) : Option (((List T37) × Int) ⊕ Out (List T37) (List T37)) :=
 (cond (!(((((v1.getD v2.toNat default).f3).getD v8.toNat default).f1) == ([] : List UInt8))) ((f46 (((v1.getD v2.toNat default).f3).getD v8.toNat default)).bind fun v15 => some (decide (v12 < v15))) (some false)).bind fun v14 => cond v14 ((f45 v1 ((((v1.getD v2.toNat default).f3).getD v8.toNat default).f1)).bind fun v16 => (rc v1 v16 (w64 ((w64 (v3 + v7)) + (w64 (v12 * v10))))).bind fun v17 => if (v11.length + v17.length) * 24 ≤ 140737488355328 then some (.inl (v11 ++ v17, w64 (v12 + (1 : Int)))) else none) (some (.inr (.go v11)))

noncomputable def f64_b2 (rc : (List T62) → Int → Int → Option (List T37)) (v1 : List T62) (v2 : Int) (v3 : Int) (v6 : List T37) (v7 : Int) (v8 : Int) : Option (((List T37) × Int × Int) ⊕ Out (List T37) (List T37)) :=
 cond (decide (v8 < (((v1.getD v2.toNat default).f3).length : Int))) (if (0 : Int) ≤ v8 ∧ v8 < (((v1.getD v2.toNat default).f3).length : Int) then (f47 v1 (((v1.getD v2.toNat default).f3).getD v8.toNat default)).bind fun v10 => (iter (fun s => f64_b1 rc v1 v2 v3 v7 v8 v10 s.1 s.2) (v6, (0 : Int))).bind fun y => match y with | .ret v18 => some (.inr (.ret v18)) | .go v13 => (f46 (((v1.getD v2.toNat default).f3).getD v8.toNat default)).bind fun v19 => some (.inl (v13, w64 (v7 + (w64 (v19 * v10))), w64 (v8 + (1 : Int)))) else none) (some (.inr (.go v6)))

noncomputable def f64_j3 (rc : (List T62) → Int → Int → Option (List T37)) (v21 : List T37) : Option (List T37) :=
 some v21

noncomputable def f64_j4 (rc : (List T62) → Int → Int → Option (List T37)) (v1 : List T62) (v2 : Int) (v3 : Int) (v4 : List T37) (v5 : Int) : Option (List T37) :=
 (iter (fun s => f64_b2 rc v1 v2 v3 s.1 s.2.1 s.2.2) (v4, v5, (0 : Int))).bind fun y => match y with | .ret v20 => some v20 | .go v9 => cond (!(((v1.getD v2.toNat default).f1) == ([] : List UInt8))) ((f45 v1 ((v1.getD v2.toNat default).f1)).bind fun v22 => (rc v1 v22 v3).bind fun v23 => if (v9.length + v23.length) * 24 ≤ 140737488355328 then f64_j3 rc (v9 ++ v23) else none) (f64_j3 rc v9)

noncomputable def f64_j5 (rc : (List T62) → Int → Int → Option (List T37)) (v1 : List T62) (v2 : Int) (v3 : Int) (v4 : List T37) : Option (List T37) :=
 cond (!(((v1.getD v2.toNat default).f1) == ([] : List UInt8))) ((f45 v1 ((v1.getD v2.toNat default).f1)).bind fun v24 => (f54 v1 v24).bind fun v25 => f64_j4 rc v1 v2 v3 v4 v25) (f64_j4 rc v1 v2 v3 v4 (0 : Int))

noncomputable def f64F (rc : (List T62) → Int → Int → Option (List T37)) (v1 : List T62) (v2 : Int) (v3 : Int) : Option (List T37) :=
 if (0 : Int) ≤ v2 ∧ v2 < (v1.length : Int) then cond (!(((v1.getD v2.toNat default).f5) == ([] : List UInt8))) (if (0 + [T37.mk ((v1.getD v2.toNat default).f5) v3].length) * 24 ≤ 140737488355328 then f64_j5 rc v1 v2 v3 [T37.mk ((v1.getD v2.toNat default).f5) v3] else none) (f64_j5 rc v1 v2 v3 []) else none

theorem f64F_ok (rc : (List T62) → Int → Int → Option (List T37)) (rc_ok : ∀ (v1 : List T62) (v2 : Int) (v3 : Int) {r : (List T37)}, rc v1 v2 v3 = some r → ACall Try.prog 64 [.tv (fzL 6 c62 v1), .tv (.int .i64 v2), .tv (.int .i64 v3)] [] (.tv (ownL 2 38 c37 r)) []) (v1 : List T62) (v2 : Int) (v3 : Int) {r : (List T37)} (h : f64F rc v1 v2 v3 = some r) : ACall Try.prog 64 [.tv (fzL 6 c62 v1), .tv (.int .i64 v2), .tv (.int .i64 v3)] [] (.tv (ownL 2 38 c37 r)) [] := by
 refine ACall.of1 (FF 93 0) Try.func64 rfl Try.ntmps64 Try.results64 (Nat.le_of_ble_eq_true rfl) rfl rfl ?_
 refine AWp.seq ?_
 refine AWp.start [0] [] [] [0, 1, 2] 0 ⟨[(0, q0 v1), (1, tI v2), (2, tI v3)], []⟩ rfl ?_ z0 trivial ?_
 · kernel_rfl
 refine AOps.nil ?_
 refine AWp.seq ?_
 obtain ⟨hg, h⟩ := of_guard h
 refine AWp.start [0, 1, 2, 3, 4, 5] [] [(0 : Int) ≤ v2, v2 < (v1.length : Int)] [0, 2, 7] 1 ⟨[(0, q0 v1), (2, tI v3), (7, .pc 0 0)], [.cells 63 (c62 (gD v1 v2))]⟩ rfl ?_ z0 ⟨hg.1, hg.2⟩ ?_
 · kernel_rfl
 refine AOps.nil ?_
 refine AWp.seq ?_
 refine AWp.pin 0 rfl rfl ?_
 refine AWp.keepTo [0, 2, 7] 0 ⟨[(0, q0 v1), (2, tI v3), (7, .rp (c62 (gD v1 v2)))], []⟩ ?_ z0 ?_
 · kernel_rfl
 refine AWp.start [0] [] [] [0, 2, 7, 8] 0 ⟨[(0, q0 v1), (2, tI v3), (7, .rp (c62 (gD v1 v2))), (8, .tv (.sc (.slice none 0 0)))], []⟩ rfl ?_ z0 trivial ?_
 · kernel_rfl
 refine AOps.nil ?_
 refine AWp.join (V := (List T37)) (fun w => ⟨[(0, q0 v1), (2, tI v3), (7, .rp (c62 (gD v1 v2))), (8, q4 w)], []⟩) (fun w => f64_j5 rc v1 v2 v3 w = some r) ?_ ?_
 · refine AWp.seq ?_
   refine AWp.start [0, 1, 2] [] [] [0, 2, 7, 8, 20] 0 ⟨[(0, q0 v1), (2, tI v3), (7, .rp (c62 (gD v1 v2))), (8, .tv (.sc (.slice none 0 0))), (20, tB (!(((gD v1 v2).f5) == ([] : List UInt8))))], []⟩ rfl ?_ z0 trivial ?_
   · kernel_rfl
   refine AOps.nil ?_
   refine AWp.cond rfl (fun hb => ?_) fun hb => ?_
   · replace h := of_true h hb
     refine AWp.keepTo [0, 2, 7, 8] 0 ⟨[(0, q0 v1), (2, tI v3), (7, .rp (c62 (gD v1 v2))), (8, .tv (.sc (.slice none 0 0)))], []⟩ ?_ z0 ?_
     · kernel_rfl
     refine AWp.start [0, 1, 2, 3, 4, 5] [6, 7] [] [0, 2, 7, 21, 26] 0 ⟨[(0, q0 v1), (2, tI v3), (7, .rp (c62 (gD v1 v2))), (21, .tv (.sc (.slice none 0 0))), (26, .tv (.own 2 38 1 (newRowF [.str ((gD v1 v2).f5), .int .i64 v3] 2)))], []⟩ rfl ?_ z0 trivial ?_
     · kernel_rfl
     refine AOps.extL 26 c37 [T37.mk ((gD v1 v2).f5) v3] rfl rfl (row_at c37 2 (fun _ => rfl) [T37.mk ((gD v1 v2).f5) v3] _ rfl) ?_
     obtain ⟨hg, h⟩ := of_guard h
     refine AOps.go [6] [7] [(0 + [T37.mk ((gD v1 v2).f5) v3].length) * 24 ≤ 140737488355328, PlainTo 0 (fun _ => []), PlainTo ([T37.mk ((gD v1 v2).f5) v3].length) (fun i => c37 ([T37.mk ((gD v1 v2).f5) v3].getD i default))] [0, 2, 7, 27] 0 ⟨[(0, q0 v1), (2, tI v3), (7, .rp (c62 (gD v1 v2))), (27, .tv (.own 2 38 (0 + [T37.mk ((gD v1 v2).f5) v3].length) (appF 0 (fun _ => []) (fun i => c37 ([T37.mk ((gD v1 v2).f5) v3].getD i default)))))], []⟩ ?_ z0 ⟨hg, (fun _ _ => rfl), (fun _ _ => rfl)⟩ ?_
     · kernel_rfl
     refine AOps.extL 27 c37 [T37.mk ((gD v1 v2).f5) v3] rfl (by simp) (app_nil c37 [T37.mk ((gD v1 v2).f5) v3]) ?_
     refine AOps.go [7] [] [] [0, 2, 7, 8] 0 ⟨[(0, q0 v1), (2, tI v3), (7, .rp (c62 (gD v1 v2))), (8, q4 [T37.mk ((gD v1 v2).f5) v3])], []⟩ ?_ z0 trivial ?_
     · kernel_rfl
     refine AOps.nil ?_
     exact ⟨[T37.mk ((gD v1 v2).f5) v3], h, rfl⟩
   · replace h := of_false h hb
     refine AWp.keepTo [0, 2, 7, 8] 0 ⟨[(0, q0 v1), (2, tI v3), (7, .rp (c62 (gD v1 v2))), (8, .tv (.sc (.slice none 0 0)))], []⟩ ?_ z0 ?_
     · kernel_rfl
     refine AWp.nilOwn 8 2 38 (fun i => c37 (([] : List T37).getD i default)) rfl ?_
     refine AWp.keepTo [0, 2, 7, 8] 0 ⟨[(0, q0 v1), (2, tI v3), (7, .rp (c62 (gD v1 v2))), (8, q4 ([] : List T37))], []⟩ ?_ z0 ?_
     · kernel_rfl
     refine AWp.skip ?_
     exact ⟨[], h, rfl⟩
 · rintro v4 h
   refine AWp.seq ?_
   refine AWp.start [0] [] [] [0, 2, 7, 8, 9] 0 ⟨[(0, q0 v1), (2, tI v3), (7, .rp (c62 (gD v1 v2))), (8, q4 v4), (9, tI (0 : Int))], []⟩ rfl ?_ z0 trivial ?_
   · kernel_rfl
   refine AOps.nil ?_
   refine AWp.join (V := Int) (fun w => ⟨[(0, q0 v1), (2, tI v3), (7, .rp (c62 (gD v1 v2))), (8, q4 v4), (9, tI w)], []⟩) (fun w => f64_j4 rc v1 v2 v3 v4 w = some r) ?_ ?_
   · refine AWp.seq ?_
     refine AWp.start [0, 1, 2] [] [] [0, 2, 7, 8, 9, 30] 0 ⟨[(0, q0 v1), (2, tI v3), (7, .rp (c62 (gD v1 v2))), (8, q4 v4), (9, tI (0 : Int)), (30, tB (!(((gD v1 v2).f1) == ([] : List UInt8))))], []⟩ rfl ?_ z0 trivial ?_
     · kernel_rfl
     refine AOps.nil ?_
     refine AWp.cond rfl (fun hb => ?_) fun hb => ?_
     · replace h := of_true h hb
       refine AWp.keepTo [0, 2, 7, 8] 0 ⟨[(0, q0 v1), (2, tI v3), (7, .rp (c62 (gD v1 v2))), (8, q4 v4)], []⟩ ?_ z0 ?_
       · kernel_rfl
       refine AWp.start [0, 1, 2, 3] [4, 5, 6] [] [0, 2, 7, 8, 31, 32, 34] 0 ⟨[(0, q0 v1), (2, tI v3), (7, .rp (c62 (gD v1 v2))), (8, q4 v4), (31, q0 v1), (32, q0 v1), (34, tS ((gD v1 v2).f1))], []⟩ rfl ?_ z0 trivial ?_
       · kernel_rfl
       obtain ⟨v24, hv24, h⟩ := of_bind h
       refine AOps.cons (AOne.callP (F := (FF 93 0)) _ rfl rfl rfl _ rfl rfl _ _ rfl Try.call45 [q0 v1, tS ((gD v1 v2).f1)] rfl rfl (f45_ok v1 ((gD v1 v2).f1) hv24) rfl) ?_
       obtain ⟨v25, hv25, h⟩ := of_bind h
       refine AOps.cons (AOne.callP (F := (FF 93 0)) _ rfl rfl rfl _ rfl rfl _ _ rfl Try.call54 [q0 v1, tI v24] rfl rfl (f54_ok v1 v24 hv25) rfl) ?_
       refine AOps.go [6] [] [] [0, 2, 7, 8, 9] 0 ⟨[(0, q0 v1), (2, tI v3), (7, .rp (c62 (gD v1 v2))), (8, q4 v4), (9, tI v25)], []⟩ ?_ z0 trivial ?_
       · kernel_rfl
       refine AOps.nil ?_
       exact ⟨v25, h, rfl⟩
     · replace h := of_false h hb
       refine AWp.keepTo [0, 2, 7, 8, 9] 0 ⟨[(0, q0 v1), (2, tI v3), (7, .rp (c62 (gD v1 v2))), (8, q4 v4), (9, tI (0 : Int))], []⟩ ?_ z0 ?_
       · kernel_rfl
       refine AWp.skip ?_
       exact ⟨(0 : Int), h, rfl⟩
   · rintro v5 h
     refine AWp.seq ?_
     refine AWp.seq ?_
     refine AWp.start [0, 1, 2, 3] [] [] [0, 2, 7, 8, 9, 38, 39, 40] 0 ⟨[(0, q0 v1), (2, tI v3), (7, .rp (c62 (gD v1 v2))), (8, q4 v4), (9, tI v5), (38, q2 ((gD v1 v2).f3)), (39, tI (((gD v1 v2).f3).length : Int)), (40, tI (0 : Int))], []⟩ rfl ?_ z0 trivial ?_
     · kernel_rfl
     refine AOps.nil ?_
     refine AWp.block ?_
     obtain ⟨y, hy, h⟩ := of_bind h
     refine AWp.mono (AWp.loop (S := (List T37) × Int × Int) (Y := Out (List T37) (List T37)) (fun s => ⟨[(0, q0 v1), (2, tI v3), (7, .rp (c62 (gD v1 v2))), (8, q4 s.1), (9, tI s.2.1), (38, q2 ((gD v1 v2).f3)), (39, tI (((gD v1 v2).f3).length : Int)), (40, tI s.2.2)], []⟩) (fun s => f64_b2 rc v1 v2 v3 s.1 s.2.1 s.2.2) (fun y e σ => match y with | .ret r => e = .ret ∧ σ = ⟨[(6, q4 r)], []⟩ | .go v => e = .exit 0 ∧ σ = ⟨[(0, q0 v1), (2, tI v3), (7, .rp (c62 (gD v1 v2))), (8, q4 v)], []⟩) ?_ hy) ?_
     · rintro ⟨v6, v7, v8⟩ o h
       refine AWp.seq ?_
       refine AWp.start [0] [] [] [0, 2, 7, 8, 9, 38, 39, 40, 41] 0 ⟨[(0, q0 v1), (2, tI v3), (7, .rp (c62 (gD v1 v2))), (8, q4 v6), (9, tI v7), (38, q2 ((gD v1 v2).f3)), (39, tI (((gD v1 v2).f3).length : Int)), (40, tI v8), (41, tB (decide (v8 < (((gD v1 v2).f3).length : Int))))], []⟩ rfl ?_ z0 trivial ?_
       · kernel_rfl
       refine AOps.nil ?_
       refine AWp.seq ?_
       refine AWp.cond rfl (fun hb => ?_) fun hb => ?_
       · replace h := of_true h hb
         refine AWp.keepTo [0, 2, 7, 8, 9, 38, 39, 40] 0 ⟨[(0, q0 v1), (2, tI v3), (7, .rp (c62 (gD v1 v2))), (8, q4 v6), (9, tI v7), (38, q2 ((gD v1 v2).f3)), (39, tI (((gD v1 v2).f3).length : Int)), (40, tI v8)], []⟩ ?_ z0 ?_
         · kernel_rfl
         refine AWp.skip ?_
         refine AWp.seq ?_
         refine AWp.block ?_
         refine AWp.seq ?_
         obtain ⟨hg, h⟩ := of_guard h
         refine AWp.start [0, 1, 2, 3] [] [(0 : Int) ≤ v8, v8 < (((gD v1 v2).f3).length : Int)] [0, 2, 7, 8, 9, 11, 38, 39, 40] 1 ⟨[(0, q0 v1), (2, tI v3), (7, .rp (c62 (gD v1 v2))), (8, q4 v6), (9, tI v7), (11, .pc 0 0), (38, q2 ((gD v1 v2).f3)), (39, tI (((gD v1 v2).f3).length : Int)), (40, tI v8)], [.cells 36 (c35 (gD ((gD v1 v2).f3) v8))]⟩ rfl ?_ z0 ⟨hg.1, hg.2⟩ ?_
         · kernel_rfl
         refine AOps.nil ?_
         refine AWp.seq ?_
         refine AWp.pin 0 rfl rfl ?_
         refine AWp.keepTo [0, 2, 7, 8, 9, 11, 38, 39, 40] 0 ⟨[(0, q0 v1), (2, tI v3), (7, .rp (c62 (gD v1 v2))), (8, q4 v6), (9, tI v7), (11, .rp (c35 (gD ((gD v1 v2).f3) v8))), (38, q2 ((gD v1 v2).f3)), (39, tI (((gD v1 v2).f3).length : Int)), (40, tI v8)], []⟩ ?_ z0 ?_
         · kernel_rfl
         refine AWp.start [0, 1] [2, 3] [] [0, 2, 7, 8, 9, 11, 38, 39, 40, 44, 45] 0 ⟨[(0, q0 v1), (2, tI v3), (7, .rp (c62 (gD v1 v2))), (8, q4 v6), (9, tI v7), (11, .rp (c35 (gD ((gD v1 v2).f3) v8))), (38, q2 ((gD v1 v2).f3)), (39, tI (((gD v1 v2).f3).length : Int)), (40, tI v8), (44, q0 v1), (45, .agg (c35 (gD ((gD v1 v2).f3) v8)))], []⟩ rfl ?_ z0 trivial ?_
         · kernel_rfl
         obtain ⟨v10, hv10, h⟩ := of_bind h
         refine AOps.cons (AOne.callP (F := (FF 93 0)) _ rfl rfl rfl _ rfl rfl _ _ rfl Try.call47 [q0 v1, .agg (c35 (gD ((gD v1 v2).f3) v8))] rfl rfl (f47_ok v1 (gD ((gD v1 v2).f3) v8) hv10) rfl) ?_
         refine AOps.go [3] [] [] [0, 2, 7, 8, 9, 11, 12, 38, 39, 40] 0 ⟨[(0, q0 v1), (2, tI v3), (7, .rp (c62 (gD v1 v2))), (8, q4 v6), (9, tI v7), (11, .rp (c35 (gD ((gD v1 v2).f3) v8))), (12, tI v10), (38, q2 ((gD v1 v2).f3)), (39, tI (((gD v1 v2).f3).length : Int)), (40, tI v8)], []⟩ ?_ z0 trivial ?_
         · kernel_rfl
         refine AOps.nil ?_
         refine AWp.seq ?_
         refine AWp.seq ?_
         refine AWp.start [0] [] [] [0, 2, 7, 8, 9, 11, 12, 13, 38, 39, 40] 0 ⟨[(0, q0 v1), (2, tI v3), (7, .rp (c62 (gD v1 v2))), (8, q4 v6), (9, tI v7), (11, .rp (c35 (gD ((gD v1 v2).f3) v8))), (12, tI v10), (13, tI (0 : Int)), (38, q2 ((gD v1 v2).f3)), (39, tI (((gD v1 v2).f3).length : Int)), (40, tI v8)], []⟩ rfl ?_ z0 trivial ?_
         · kernel_rfl
         refine AOps.nil ?_
         refine AWp.block ?_
         obtain ⟨y, hy, h⟩ := of_bind h
         refine AWp.mono (AWp.loop (S := (List T37) × Int) (Y := Out (List T37) (List T37)) (fun s => ⟨[(0, q0 v1), (2, tI v3), (7, .rp (c62 (gD v1 v2))), (8, q4 s.1), (9, tI v7), (11, .rp (c35 (gD ((gD v1 v2).f3) v8))), (12, tI v10), (13, tI s.2), (38, q2 ((gD v1 v2).f3)), (39, tI (((gD v1 v2).f3).length : Int)), (40, tI v8)], []⟩) (fun s => f64_b1 rc v1 v2 v3 v7 v8 v10 s.1 s.2) (fun y e σ => match y with | .ret r => e = .ret ∧ σ = ⟨[(6, q4 r)], []⟩ | .go v => e = .exit 2 ∧ σ = ⟨[(0, q0 v1), (2, tI v3), (7, .rp (c62 (gD v1 v2))), (8, q4 v), (9, tI v7), (11, .rp (c35 (gD ((gD v1 v2).f3) v8))), (12, tI v10), (38, q2 ((gD v1 v2).f3)), (39, tI (((gD v1 v2).f3).length : Int)), (40, tI v8)], []⟩) ?_ hy) ?_
         · rintro ⟨v11, v12⟩ o h
           refine AWp.seq ?_
           refine AWp.seq ?_
           refine AWp.start [0, 1, 2, 3] [4, 5, 6, 7, 8] [] [0, 2, 7, 8, 9, 11, 12, 13, 38, 39, 40, 50] 0 ⟨[(0, q0 v1), (2, tI v3), (7, .rp (c62 (gD v1 v2))), (8, q4 v11), (9, tI v7), (11, .rp (c35 (gD ((gD v1 v2).f3) v8))), (12, tI v10), (13, tI v12), (38, q2 ((gD v1 v2).f3)), (39, tI (((gD v1 v2).f3).length : Int)), (40, tI v8), (50, tB (!(((gD ((gD v1 v2).f3) v8).f1) == ([] : List UInt8))))], []⟩ rfl ?_ z0 trivial ?_
           · kernel_rfl
           obtain ⟨v14, hc4, h⟩ := of_bind h
           refine AOps.cut [4, 5, 6, 7, 8] [] (fun σ => σ = ⟨[(0, q0 v1), (2, tI v3), (7, .rp (c62 (gD v1 v2))), (8, q4 v11), (9, tI v7), (11, .rp (c35 (gD ((gD v1 v2).f3) v8))), (12, tI v10), (13, tI v12), (38, q2 ((gD v1 v2).f3)), (39, tI (((gD v1 v2).f3).length : Int)), (40, tI v8), (55, tB v14)], []⟩) ?_ fun σ' hJ => ?_
           · refine AOps.split (fun b => ⟨[(0, q0 v1), (2, tI v3), (7, .rp (c62 (gD v1 v2))), (8, q4 v11), (9, tI v7), (11, .rp (c35 (gD ((gD v1 v2).f3) v8))), (12, tI v10), (13, tI v12), (38, q2 ((gD v1 v2).f3)), (39, tI (((gD v1 v2).f3).length : Int)), (40, tI v8), (50, tB b)], []⟩) _ (fun hb => ?_) fun hb => ?_
             · replace hc4 := of_true hc4 hb
               refine AOps.go [4, 5] [6, 7, 8] [] [0, 2, 7, 8, 9, 11, 12, 13, 38, 39, 40, 50, 51, 52] 0 ⟨[(0, q0 v1), (2, tI v3), (7, .rp (c62 (gD v1 v2))), (8, q4 v11), (9, tI v7), (11, .rp (c35 (gD ((gD v1 v2).f3) v8))), (12, tI v10), (13, tI v12), (38, q2 ((gD v1 v2).f3)), (39, tI (((gD v1 v2).f3).length : Int)), (40, tI v8), (50, tB true), (51, tI v12), (52, .agg (c35 (gD ((gD v1 v2).f3) v8)))], []⟩ ?_ z0 trivial ?_
               · kernel_rfl
               obtain ⟨v15, hv15, hc4⟩ := of_bind hc4
               refine AOps.cons (AOne.callP (F := (FF 93 0)) _ rfl rfl rfl _ rfl rfl _ _ rfl Try.call46 [.agg (c35 (gD ((gD v1 v2).f3) v8))] rfl rfl (f46_ok (gD ((gD v1 v2).f3) v8) hv15) rfl) ?_
               refine AOps.go [7, 8] [] [] [0, 2, 7, 8, 9, 11, 12, 13, 38, 39, 40, 55] 0 ⟨[(0, q0 v1), (2, tI v3), (7, .rp (c62 (gD v1 v2))), (8, q4 v11), (9, tI v7), (11, .rp (c35 (gD ((gD v1 v2).f3) v8))), (12, tI v10), (13, tI v12), (38, q2 ((gD v1 v2).f3)), (39, tI (((gD v1 v2).f3).length : Int)), (40, tI v8), (55, tB (decide (v12 < v15)))], []⟩ ?_ z0 trivial ?_
               · kernel_rfl
               cases hc4
               exact AOps.nil rfl
             · replace hc4 := of_false hc4 hb
               refine AOps.go [4, 5, 6, 7, 8] [] [] [0, 2, 7, 8, 9, 11, 12, 13, 38, 39, 40, 55] 0 ⟨[(0, q0 v1), (2, tI v3), (7, .rp (c62 (gD v1 v2))), (8, q4 v11), (9, tI v7), (11, .rp (c35 (gD ((gD v1 v2).f3) v8))), (12, tI v10), (13, tI v12), (38, q2 ((gD v1 v2).f3)), (39, tI (((gD v1 v2).f3).length : Int)), (40, tI v8), (55, tB false)], []⟩ ?_ z0 trivial ?_
               · kernel_rfl
               cases hc4
               exact AOps.nil rfl
           subst hJ
           refine AOps.nil ?_
           refine AWp.cond rfl (fun hb => ?_) fun hb => ?_
           · replace h := of_true h hb
             refine AWp.keepTo [0, 2, 7, 8, 9, 11, 12, 13, 38, 39, 40] 0 ⟨[(0, q0 v1), (2, tI v3), (7, .rp (c62 (gD v1 v2))), (8, q4 v11), (9, tI v7), (11, .rp (c35 (gD ((gD v1 v2).f3) v8))), (12, tI v10), (13, tI v12), (38, q2 ((gD v1 v2).f3)), (39, tI (((gD v1 v2).f3).length : Int)), (40, tI v8)], []⟩ ?_ z0 ?_
             · kernel_rfl
             refine AWp.skip ?_
             refine AWp.seq ?_
             refine AWp.block ?_
             refine AWp.start [0, 1, 2, 3, 4] [5, 6, 7, 8, 9, 10, 11, 12, 13, 14, 15] [] [0, 2, 7, 8, 9, 11, 12, 13, 38, 39, 40, 58, 59, 60, 62] 0 ⟨[(0, q0 v1), (2, tI v3), (7, .rp (c62 (gD v1 v2))), (8, q4 v11), (9, tI v7), (11, .rp (c35 (gD ((gD v1 v2).f3) v8))), (12, tI v10), (13, tI v12), (38, q2 ((gD v1 v2).f3)), (39, tI (((gD v1 v2).f3).length : Int)), (40, tI v8), (58, .al (.slot 8 0, [])), (59, q0 v1), (60, q0 v1), (62, tS ((gD ((gD v1 v2).f3) v8).f1))], []⟩ rfl ?_ z0 trivial ?_
             · kernel_rfl
             obtain ⟨v16, hv16, h⟩ := of_bind h
             refine AOps.cons (AOne.callP (F := (FF 93 0)) _ rfl rfl rfl _ rfl rfl _ _ rfl Try.call45 [q0 v1, tS ((gD ((gD v1 v2).f3) v8).f1)] rfl rfl (f45_ok v1 ((gD ((gD v1 v2).f3) v8).f1) hv16) rfl) ?_
             refine AOps.go [6, 7, 8, 9, 10, 11, 12] [13, 14, 15] [] [0, 2, 7, 8, 9, 11, 12, 13, 38, 39, 40, 58, 59, 63, 70] 0 ⟨[(0, q0 v1), (2, tI v3), (7, .rp (c62 (gD v1 v2))), (8, q4 v11), (9, tI v7), (11, .rp (c35 (gD ((gD v1 v2).f3) v8))), (12, tI v10), (13, tI v12), (38, q2 ((gD v1 v2).f3)), (39, tI (((gD v1 v2).f3).length : Int)), (40, tI v8), (58, .al (.slot 8 0, [])), (59, q0 v1), (63, tI v16), (70, tI (w64 ((w64 (v3 + v7)) + (w64 (v12 * v10)))))], []⟩ ?_ z0 trivial ?_
             · kernel_rfl
             obtain ⟨v17, hv17, h⟩ := of_bind h
             refine AOps.cons (AOne.callP (F := (FF 93 0)) _ rfl rfl rfl _ rfl rfl _ _ rfl Try.call64 [q0 v1, tI v16, tI (w64 ((w64 (v3 + v7)) + (w64 (v12 * v10))))] rfl rfl (rc_ok v1 v16 (w64 ((w64 (v3 + v7)) + (w64 (v12 * v10)))) hv17) rfl) ?_
             obtain ⟨hg, h⟩ := of_guard h
             refine AOps.go [14] [15] [(v11.length + v17.length) * 24 ≤ 140737488355328, PlainTo v11.length (fun i => c37 (v11.getD i default)), PlainTo v17.length (fun i => c37 (v17.getD i default))] [0, 2, 7, 9, 11, 12, 13, 38, 39, 40, 72] 0 ⟨[(0, q0 v1), (2, tI v3), (7, .rp (c62 (gD v1 v2))), (9, tI v7), (11, .rp (c35 (gD ((gD v1 v2).f3) v8))), (12, tI v10), (13, tI v12), (38, q2 ((gD v1 v2).f3)), (39, tI (((gD v1 v2).f3).length : Int)), (40, tI v8), (72, .tv (.own 2 38 (v11.length + v17.length) (appF v11.length (fun i => c37 (v11.getD i default)) (fun i => c37 (v17.getD i default)))))], []⟩ ?_ z0 ⟨hg, (fun _ _ => rfl), (fun _ _ => rfl)⟩ ?_
             · kernel_rfl
             refine AOps.extL 72 c37 (v11 ++ v17) rfl List.length_append.symm (app_at c37 v11 v17) ?_
             refine AOps.go [15] [] [] [0, 2, 7, 8, 9, 11, 12, 13, 38, 39, 40] 0 ⟨[(0, q0 v1), (2, tI v3), (7, .rp (c62 (gD v1 v2))), (8, q4 (v11 ++ v17)), (9, tI v7), (11, .rp (c35 (gD ((gD v1 v2).f3) v8))), (12, tI v10), (13, tI v12), (38, q2 ((gD v1 v2).f3)), (39, tI (((gD v1 v2).f3).length : Int)), (40, tI v8)], []⟩ ?_ z0 trivial ?_
             · kernel_rfl
             refine AOps.nil ?_
             refine AWp.start [0, 1, 2] [] [] [0, 2, 7, 8, 9, 11, 12, 13, 38, 39, 40] 0 ⟨[(0, q0 v1), (2, tI v3), (7, .rp (c62 (gD v1 v2))), (8, q4 (v11 ++ v17)), (9, tI v7), (11, .rp (c35 (gD ((gD v1 v2).f3) v8))), (12, tI v10), (13, tI (w64 (v12 + (1 : Int)))), (38, q2 ((gD v1 v2).f3)), (39, tI (((gD v1 v2).f3).length : Int)), (40, tI v8)], []⟩ rfl ?_ z0 trivial ?_
             · kernel_rfl
             refine AOps.nil ?_
             cases h
             exact Or.inl ⟨_, rfl, rfl, rfl⟩
           · replace h := of_false h hb
             refine AWp.keepTo [0, 2, 7, 8, 9, 11, 12, 38, 39, 40] 0 ⟨[(0, q0 v1), (2, tI v3), (7, .rp (c62 (gD v1 v2))), (8, q4 v11), (9, tI v7), (11, .rp (c35 (gD ((gD v1 v2).f3) v8))), (12, tI v10), (38, q2 ((gD v1 v2).f3)), (39, tI (((gD v1 v2).f3).length : Int)), (40, tI v8)], []⟩ ?_ z0 ?_
             · kernel_rfl
             refine AWp.exit ?_
             cases h
             exact Or.inr ⟨_, rfl, by simp, rfl, rfl⟩
         · intro e σ hp
           rcases y with v18 | v13
           · obtain ⟨rfl, rfl⟩ := hp
             cases h
             exact Or.inr ⟨_, rfl, by simp, rfl, rfl⟩
           · obtain ⟨rfl, rfl⟩ := hp
             refine AWp.start [0, 1] [2, 3, 4, 5, 6] [] [0, 2, 7, 8, 12, 38, 39, 40, 73, 74] 0 ⟨[(0, q0 v1), (2, tI v3), (7, .rp (c62 (gD v1 v2))), (8, q4 v13), (12, tI v10), (38, q2 ((gD v1 v2).f3)), (39, tI (((gD v1 v2).f3).length : Int)), (40, tI v8), (73, tI v7), (74, .agg (c35 (gD ((gD v1 v2).f3) v8)))], []⟩ rfl ?_ z0 trivial ?_
             · kernel_rfl
             obtain ⟨v19, hv19, h⟩ := of_bind h
             refine AOps.cons (AOne.callP (F := (FF 93 0)) _ rfl rfl rfl _ rfl rfl _ _ rfl Try.call46 [.agg (c35 (gD ((gD v1 v2).f3) v8))] rfl rfl (f46_ok (gD ((gD v1 v2).f3) v8) hv19) rfl) ?_
             refine AOps.go [3, 4, 5, 6] [] [] [0, 2, 7, 8, 9, 38, 39, 40] 0 ⟨[(0, q0 v1), (2, tI v3), (7, .rp (c62 (gD v1 v2))), (8, q4 v13), (9, tI (w64 (v7 + (w64 (v19 * v10))))), (38, q2 ((gD v1 v2).f3)), (39, tI (((gD v1 v2).f3).length : Int)), (40, tI v8)], []⟩ ?_ z0 trivial ?_
             · kernel_rfl
             refine AOps.nil ?_
             refine AWp.start [0, 1] [] [] [0, 2, 7, 8, 9, 38, 39, 40] 0 ⟨[(0, q0 v1), (2, tI v3), (7, .rp (c62 (gD v1 v2))), (8, q4 v13), (9, tI (w64 (v7 + (w64 (v19 * v10))))), (38, q2 ((gD v1 v2).f3)), (39, tI (((gD v1 v2).f3).length : Int)), (40, tI (w64 (v8 + (1 : Int))))], []⟩ rfl ?_ z0 trivial ?_
             · kernel_rfl
             refine AOps.nil ?_
             cases h
             exact Or.inl ⟨_, rfl, rfl, rfl⟩
       · replace h := of_false h hb
         refine AWp.keepTo [0, 2, 7, 8] 0 ⟨[(0, q0 v1), (2, tI v3), (7, .rp (c62 (gD v1 v2))), (8, q4 v6)], []⟩ ?_ z0 ?_
         · kernel_rfl
         refine AWp.exit ?_
         cases h
         exact Or.inr ⟨_, rfl, by simp, rfl, rfl⟩
     · intro e σ hp
       rcases y with v20 | v9
       · obtain ⟨rfl, rfl⟩ := hp
         cases h
         exact ⟨.inr rfl, rfl⟩
       · obtain ⟨rfl, rfl⟩ := hp
         refine AWp.join (V := (List T37)) (fun w => ⟨[(8, q4 w)], []⟩) (fun w => f64_j3 rc  w = some r) ?_ ?_
         · refine AWp.seq ?_
           refine AWp.start [0, 1, 2] [] [] [0, 2, 7, 8, 82] 0 ⟨[(0, q0 v1), (2, tI v3), (7, .rp (c62 (gD v1 v2))), (8, q4 v9), (82, tB (!(((gD v1 v2).f1) == ([] : List UInt8))))], []⟩ rfl ?_ z0 trivial ?_
           · kernel_rfl
           refine AOps.nil ?_
           refine AWp.cond rfl (fun hb => ?_) fun hb => ?_
           · replace h := of_true h hb
             refine AWp.keepTo [0, 2, 7, 8] 0 ⟨[(0, q0 v1), (2, tI v3), (7, .rp (c62 (gD v1 v2))), (8, q4 v9)], []⟩ ?_ z0 ?_
             · kernel_rfl
             refine AWp.start [0, 1, 2, 3, 4] [5, 6, 7, 8, 9] [] [2, 8, 83, 84, 85, 87] 0 ⟨[(2, tI v3), (8, q4 v9), (83, .al (.slot 8 0, [])), (84, q0 v1), (85, q0 v1), (87, tS ((gD v1 v2).f1))], []⟩ rfl ?_ z0 trivial ?_
             · kernel_rfl
             obtain ⟨v22, hv22, h⟩ := of_bind h
             refine AOps.cons (AOne.callP (F := (FF 93 0)) _ rfl rfl rfl _ rfl rfl _ _ rfl Try.call45 [q0 v1, tS ((gD v1 v2).f1)] rfl rfl (f45_ok v1 ((gD v1 v2).f1) hv22) rfl) ?_
             refine AOps.go [6] [7, 8, 9] [] [8, 83, 84, 88, 89] 0 ⟨[(8, q4 v9), (83, .al (.slot 8 0, [])), (84, q0 v1), (88, tI v22), (89, tI v3)], []⟩ ?_ z0 trivial ?_
             · kernel_rfl
             obtain ⟨v23, hv23, h⟩ := of_bind h
             refine AOps.cons (AOne.callP (F := (FF 93 0)) _ rfl rfl rfl _ rfl rfl _ _ rfl Try.call64 [q0 v1, tI v22, tI v3] rfl rfl (rc_ok v1 v22 v3 hv23) rfl) ?_
             obtain ⟨hg, h⟩ := of_guard h
             refine AOps.go [8] [9] [(v9.length + v23.length) * 24 ≤ 140737488355328, PlainTo v9.length (fun i => c37 (v9.getD i default)), PlainTo v23.length (fun i => c37 (v23.getD i default))] [91] 0 ⟨[(91, .tv (.own 2 38 (v9.length + v23.length) (appF v9.length (fun i => c37 (v9.getD i default)) (fun i => c37 (v23.getD i default)))))], []⟩ ?_ z0 ⟨hg, (fun _ _ => rfl), (fun _ _ => rfl)⟩ ?_
             · kernel_rfl
             refine AOps.extL 91 c37 (v9 ++ v23) rfl List.length_append.symm (app_at c37 v9 v23) ?_
             refine AOps.go [9] [] [] [8] 0 ⟨[(8, q4 (v9 ++ v23))], []⟩ ?_ z0 trivial ?_
             · kernel_rfl
             refine AOps.nil ?_
             exact ⟨v9 ++ v23, h, rfl⟩
           · replace h := of_false h hb
             refine AWp.keepTo [8] 0 ⟨[(8, q4 v9)], []⟩ ?_ z0 ?_
             · kernel_rfl
             refine AWp.skip ?_
             exact ⟨v9, h, rfl⟩
         · rintro v21 h
           refine AWp.seq ?_
           refine AWp.start [0, 1] [] [] [6, 8] 0 ⟨[(6, .al (.slot 8 0, [])), (8, q4 v21)], []⟩ rfl ?_ z0 trivial ?_
           · kernel_rfl
           refine AOps.nil ?_
           refine AWp.claim 6 (.slot 8 0) (k5 v21) rfl rfl rfl rfl ?_
           refine AWp.keepTo [6] 0 ⟨[(6, q4 v21)], []⟩ ?_ z0 ?_
           · kernel_rfl
           refine AWp.ret ?_
           cases h
           exact ⟨.inr rfl, rfl⟩

noncomputable def f64R : Nat → (List T62) → Int → Int → Option (List T37)
 | 0 => fun _ _ _ => none
 | n + 1 => f64F (f64R n)

theorem f64R_ok : ∀ (n : Nat) (v1 : List T62) (v2 : Int) (v3 : Int) {r : (List T37)}, f64R n v1 v2 v3 = some r → ACall Try.prog 64 [.tv (fzL 6 c62 v1), .tv (.int .i64 v2), .tv (.int .i64 v3)] [] (.tv (ownL 2 38 c37 r)) []
 | 0, _, _, _, _, h => by cases h
 | n + 1, v1, v2, v3, _, h => f64F_ok (f64R n) (f64R_ok n) v1 v2 v3 h

noncomputable def f64 (v1 : List T62) (v2 : Int) (v3 : Int) : Option (List T37) := f64R 100 v1 v2 v3

theorem f64_ok (v1 : List T62) (v2 : Int) (v3 : Int) {r : (List T37)} (h : f64 v1 v2 v3 = some r) : ACall Try.prog 64 [.tv (fzL 6 c62 v1), .tv (.int .i64 v2), .tv (.int .i64 v3)] [] (.tv (ownL 2 38 c37 r)) [] := f64R_ok 100 v1 v2 v3 h

noncomputable def f34 (v1 : List T62) (v2 : List UInt8) : Option ((List T37) × Int) :=
 (f43 v1 v2).bind fun v3 => cond (v3.2 != (0 : Int)) (some (([] : List T37), v3.2)) ((f64 v1 v3.1 (0 : Int)).bind fun v4 => some (v4, (0 : Int)))

theorem f34_ok (v1 : List T62) (v2 : List UInt8) {r : (List T37) × Int} (h : f34 v1 v2 = some r) : ACall Try.prog 34 [.tv (fzL 6 c62 v1), .tv (.str v2)] [] (.tup [.tv (fzL 2 c37 r.1), .tv (.int .i64 r.2)]) [] := by
 refine ACall.ofN (FF 20 0) (rs := [4, 5]) (env := [(4, q6 r.1), (5, tI r.2)]) Try.func34 rfl Try.ntmps34 Try.results34 (by decide) (by decide) rfl (Nat.le_of_ble_eq_true rfl) rfl (get_ofN _ _ _ rfl) (ok_ofN _ rfl) ?_
 refine AWp.seq ?_
 refine AWp.start [0, 1] [] [] [0, 1] 0 ⟨[(0, q0 v1), (1, tS v2)], []⟩ rfl ?_ z0 trivial ?_
 · kernel_rfl
 refine AOps.nil ?_
 refine AWp.seq ?_
 refine AWp.start [0, 1] [2, 3, 4, 5, 6, 7] [] [0, 9, 10] 0 ⟨[(0, q0 v1), (9, q0 v1), (10, tS v2)], []⟩ rfl ?_ z0 trivial ?_
 · kernel_rfl
 obtain ⟨v3, hv3, h⟩ := of_bind h
 refine AOps.cons (AOne.callP (F := (FF 20 0)) _ rfl rfl rfl _ rfl rfl _ _ rfl Try.call43 [q0 v1, tS v2] rfl rfl (f43_ok v1 v2 hv3) rfl) ?_
 refine AOps.go [3, 4, 5, 6, 7] [] [] [0, 6, 7] 0 ⟨[(0, q0 v1), (6, tI v3.1), (7, tI v3.2)], []⟩ ?_ z0 trivial ?_
 · kernel_rfl
 refine AOps.nil ?_
 refine AWp.seq ?_
 refine AWp.seq ?_
 refine AWp.start [0, 1] [] [] [0, 6, 7, 15] 0 ⟨[(0, q0 v1), (6, tI v3.1), (7, tI v3.2), (15, tB (v3.2 != (0 : Int)))], []⟩ rfl ?_ z0 trivial ?_
 · kernel_rfl
 refine AOps.nil ?_
 refine AWp.cond rfl (fun hb => ?_) fun hb => ?_
 · replace h := of_true h hb
   refine AWp.keepTo [7] 0 ⟨[(7, tI v3.2)], []⟩ ?_ z0 ?_
   · kernel_rfl
   refine AWp.seq ?_
   refine AWp.start [0, 1, 2] [] [] [4, 5] 0 ⟨[(4, .tv (.sc (.slice none 0 0))), (5, tI v3.2)], []⟩ rfl ?_ z0 trivial ?_
   · kernel_rfl
   refine AOps.nil ?_
   refine AWp.nilFz 4 2 (fun i => c37 (([] : List T37).getD i default)) rfl ?_
   refine AWp.keepTo [4, 5] 0 ⟨[(4, q6 ([] : List T37)), (5, tI v3.2)], []⟩ ?_ z0 ?_
   · kernel_rfl
   refine AWp.ret ?_
   cases h
   exact ⟨.inr rfl, rfl⟩
 · replace h := of_false h hb
   refine AWp.keepTo [0, 6] 0 ⟨[(0, q0 v1), (6, tI v3.1)], []⟩ ?_ z0 ?_
   · kernel_rfl
   refine AWp.skip ?_
   refine AWp.seq ?_
   refine AWp.start [0, 1] [2, 3, 4] [] [17, 18] 0 ⟨[(17, q0 v1), (18, tI v3.1)], []⟩ rfl ?_ z0 trivial ?_
   · kernel_rfl
   obtain ⟨v4, hv4, h⟩ := of_bind h
   refine AOps.cons (AOne.callP (F := (FF 20 0)) _ rfl rfl rfl _ rfl rfl _ _ rfl Try.call64 [q0 v1, tI v3.1, tI (0 : Int)] rfl rfl (f64_ok v1 v3.1 (0 : Int) hv4) rfl) ?_
   refine AOps.go [3, 4] [] [] [4, 5] 0 ⟨[(4, q4 v4), (5, tI (0 : Int))], []⟩ ?_ z0 trivial ?_
   · kernel_rfl
   refine AOps.nil ?_
   refine AWp.freezeL 4 c37 v4 rfl (fun _ => rfl) ?_
   refine AWp.keepTo [4, 5] 0 ⟨[(4, q6 v4), (5, tI (0 : Int))], []⟩ ?_ z0 ?_
   · kernel_rfl
   refine AWp.ret ?_
   cases h
   exact ⟨.inr rfl, rfl⟩

noncomputable def f91 (v1 : Int) : Option Bool :=
 (cond (decide (v1 ≥ (97 : Int))) (some (decide (v1 ≤ (122 : Int)))) (some false)).bind fun v2 => (cond v2 (some true) ((cond (decide (v1 ≥ (65 : Int))) (some (decide (v1 ≤ (90 : Int)))) (some false)).bind fun v4 => some v4)).bind fun v3 => some v3

theorem f91_ok (v1 : Int) {r : Bool} (h : f91 v1 = some r) : ACall Try.prog 91 [.tv (.int .u8 v1)] [] (.tv (.bool r)) [] := by
 refine ACall.of1 (FF 17 0) Try.func91 rfl Try.ntmps91 Try.results91 (Nat.le_of_ble_eq_true rfl) rfl rfl ?_
 refine AWp.seq ?_
 refine AWp.start [0] [] [] [0] 0 ⟨[(0, .tv (.int .u8 v1))], []⟩ rfl ?_ z0 trivial ?_
 · kernel_rfl
 refine AOps.nil ?_
 refine AWp.seq ?_
 refine AWp.start [0, 1, 2] [3, 4, 5, 6, 7, 8, 9, 10, 11, 12, 13, 14] [] [0, 5] 0 ⟨[(0, .tv (.int .u8 v1)), (5, tB (decide (v1 ≥ (97 : Int))))], []⟩ rfl ?_ z0 trivial ?_
 · kernel_rfl
 obtain ⟨v2, hc3, h⟩ := of_bind h
 refine AOps.cut [3, 4, 5] [6, 7, 8, 9, 10, 11, 12, 13, 14] (fun σ => σ = ⟨[(0, .tv (.int .u8 v1)), (8, tB v2)], []⟩) ?_ fun σ' hJ => ?_
 · refine AOps.split (fun b => ⟨[(0, .tv (.int .u8 v1)), (5, tB b)], []⟩) _ (fun hb => ?_) fun hb => ?_
   · replace hc3 := of_true hc3 hb
     refine AOps.go [3, 4, 5] [] [] [0, 8] 0 ⟨[(0, .tv (.int .u8 v1)), (8, tB (decide (v1 ≤ (122 : Int))))], []⟩ ?_ z0 trivial ?_
     · kernel_rfl
     cases hc3
     exact AOps.nil rfl
   · replace hc3 := of_false hc3 hb
     refine AOps.go [3, 4, 5] [] [] [0, 8] 0 ⟨[(0, .tv (.int .u8 v1)), (8, tB false)], []⟩ ?_ z0 trivial ?_
     · kernel_rfl
     cases hc3
     exact AOps.nil rfl
 subst hJ
 refine AOps.go [6] [7, 8, 9, 10, 11, 12, 13, 14] [] [0, 9] 0 ⟨[(0, .tv (.int .u8 v1)), (9, tB v2)], []⟩ ?_ z0 trivial ?_
 · kernel_rfl
 obtain ⟨v3, hc7, h⟩ := of_bind h
 refine AOps.cut [7, 8, 9, 10, 11, 12, 13] [14] (fun σ => σ = ⟨[(16, tB v3)], []⟩) ?_ fun σ' hJ => ?_
 · refine AOps.split (fun b => ⟨[(0, .tv (.int .u8 v1)), (9, tB b)], []⟩) _ (fun hb => ?_) fun hb => ?_
   · replace hc7 := of_true hc7 hb
     refine AOps.go [7, 8, 9, 10, 11, 12, 13] [] [] [16] 0 ⟨[(16, tB true)], []⟩ ?_ z0 trivial ?_
     · kernel_rfl
     cases hc7
     exact AOps.nil rfl
   · replace hc7 := of_false hc7 hb
     refine AOps.go [7, 8, 9] [10, 11, 12, 13] [] [0, 9, 12] 0 ⟨[(0, .tv (.int .u8 v1)), (9, tB false), (12, tB (decide (v1 ≥ (65 : Int))))], []⟩ ?_ z0 trivial ?_
     · kernel_rfl
     obtain ⟨v4, hc10, hc7⟩ := of_bind hc7
     refine AOps.cut [10, 11, 12] [13] (fun σ => σ = ⟨[(9, tB false), (15, tB v4)], []⟩) ?_ fun σ' hJ => ?_
     · refine AOps.split (fun b => ⟨[(0, .tv (.int .u8 v1)), (9, tB false), (12, tB b)], []⟩) _ (fun hb => ?_) fun hb => ?_
       · replace hc10 := of_true hc10 hb
         refine AOps.go [10, 11, 12] [] [] [9, 15] 0 ⟨[(9, tB false), (15, tB (decide (v1 ≤ (90 : Int))))], []⟩ ?_ z0 trivial ?_
         · kernel_rfl
         cases hc10
         exact AOps.nil rfl
       · replace hc10 := of_false hc10 hb
         refine AOps.go [10, 11, 12] [] [] [9, 15] 0 ⟨[(9, tB false), (15, tB false)], []⟩ ?_ z0 trivial ?_
         · kernel_rfl
         cases hc10
         exact AOps.nil rfl
     subst hJ
     refine AOps.go [13] [] [] [16] 0 ⟨[(16, tB v4)], []⟩ ?_ z0 trivial ?_
     · kernel_rfl
     cases hc7
     exact AOps.nil rfl
 subst hJ
 refine AOps.go [14] [] [] [2] 0 ⟨[(2, tB v3)], []⟩ ?_ z0 trivial ?_
 · kernel_rfl
 refine AOps.nil ?_
 refine AWp.ret ?_
 cases h
 exact ⟨.inr rfl, rfl⟩

noncomputable def f92 (v1 : Int) : Option Bool :=
 (cond (decide (v1 ≥ (48 : Int))) (some (decide (v1 ≤ (57 : Int)))) (some false)).bind fun v2 => some v2

theorem f92_ok (v1 : Int) {r : Bool} (h : f92 v1 = some r) : ACall Try.prog 92 [.tv (.int .u8 v1)] [] (.tv (.bool r)) [] := by
 refine ACall.of1 (FF 9 0) Try.func92 rfl Try.ntmps92 Try.results92 (Nat.le_of_ble_eq_true rfl) rfl rfl ?_
 refine AWp.seq ?_
 refine AWp.start [0] [] [] [0] 0 ⟨[(0, .tv (.int .u8 v1))], []⟩ rfl ?_ z0 trivial ?_
 · kernel_rfl
 refine AOps.nil ?_
 refine AWp.seq ?_
 refine AWp.start [0, 1, 2] [3, 4, 5, 6] [] [0, 5] 0 ⟨[(0, .tv (.int .u8 v1)), (5, tB (decide (v1 ≥ (48 : Int))))], []⟩ rfl ?_ z0 trivial ?_
 · kernel_rfl
 obtain ⟨v2, hc3, h⟩ := of_bind h
 refine AOps.cut [3, 4, 5] [6] (fun σ => σ = ⟨[(8, tB v2)], []⟩) ?_ fun σ' hJ => ?_
 · refine AOps.split (fun b => ⟨[(0, .tv (.int .u8 v1)), (5, tB b)], []⟩) _ (fun hb => ?_) fun hb => ?_
   · replace hc3 := of_true hc3 hb
     refine AOps.go [3, 4, 5] [] [] [8] 0 ⟨[(8, tB (decide (v1 ≤ (57 : Int))))], []⟩ ?_ z0 trivial ?_
     · kernel_rfl
     cases hc3
     exact AOps.nil rfl
   · replace hc3 := of_false hc3 hb
     refine AOps.go [3, 4, 5] [] [] [8] 0 ⟨[(8, tB false)], []⟩ ?_ z0 trivial ?_
     · kernel_rfl
     cases hc3
     exact AOps.nil rfl
 subst hJ
 refine AOps.go [6] [] [] [2] 0 ⟨[(2, tB v2)], []⟩ ?_ z0 trivial ?_
 · kernel_rfl
 refine AOps.nil ?_
 refine AWp.ret ?_
 cases h
 exact ⟨.inr rfl, rfl⟩

noncomputable def f83 (v1 : Int) : Option Bool :=
 (f91 v1).bind fun v2 => (cond v2 (some true) ((f92 v1).bind fun v4 => some v4)).bind fun v3 => (cond v3 (some true) (some (v1 == (95 : Int)))).bind fun v5 => some v5

theorem f83_ok (v1 : Int) {r : Bool} (h : f83 v1 = some r) : ACall Try.prog 83 [.tv (.int .u8 v1)] [] (.tv (.bool r)) [] := by
 refine ACall.of1 (FF 13 0) Try.func83 rfl Try.ntmps83 Try.results83 (Nat.le_of_ble_eq_true rfl) rfl rfl ?_
 refine AWp.seq ?_
 refine AWp.start [0] [] [] [0] 0 ⟨[(0, .tv (.int .u8 v1))], []⟩ rfl ?_ z0 trivial ?_
 · kernel_rfl
 refine AOps.nil ?_
 refine AWp.seq ?_
 refine AWp.start [0] [1, 2, 3, 4, 5, 6, 7, 8, 9, 10] [] [0, 3] 0 ⟨[(0, .tv (.int .u8 v1)), (3, .tv (.int .u8 v1))], []⟩ rfl ?_ z0 trivial ?_
 · kernel_rfl
 obtain ⟨v2, hv2, h⟩ := of_bind h
 refine AOps.cons (AOne.callP (F := (FF 13 0)) _ rfl rfl rfl _ rfl rfl _ _ rfl Try.call91 [.tv (.int .u8 v1)] rfl rfl (f91_ok v1 hv2) rfl) ?_
 refine AOps.go [2] [3, 4, 5, 6, 7, 8, 9, 10] [] [0, 5] 0 ⟨[(0, .tv (.int .u8 v1)), (5, tB v2)], []⟩ ?_ z0 trivial ?_
 · kernel_rfl
 obtain ⟨v3, hc3, h⟩ := of_bind h
 refine AOps.cut [3, 4, 5] [6, 7, 8, 9, 10] (fun σ => σ = ⟨[(0, .tv (.int .u8 v1)), (8, tB v3)], []⟩) ?_ fun σ' hJ => ?_
 · refine AOps.split (fun b => ⟨[(0, .tv (.int .u8 v1)), (5, tB b)], []⟩) _ (fun hb => ?_) fun hb => ?_
   · replace hc3 := of_true hc3 hb
     refine AOps.go [3, 4, 5] [] [] [0, 8] 0 ⟨[(0, .tv (.int .u8 v1)), (8, tB true)], []⟩ ?_ z0 trivial ?_
     · kernel_rfl
     cases hc3
     exact AOps.nil rfl
   · replace hc3 := of_false hc3 hb
     refine AOps.go [3] [4, 5] [] [0, 5, 6] 0 ⟨[(0, .tv (.int .u8 v1)), (5, tB false), (6, .tv (.int .u8 v1))], []⟩ ?_ z0 trivial ?_
     · kernel_rfl
     obtain ⟨v4, hv4, hc3⟩ := of_bind hc3
     refine AOps.cons (AOne.callP (F := (FF 13 0)) _ rfl rfl rfl _ rfl rfl _ _ rfl Try.call92 [.tv (.int .u8 v1)] rfl rfl (f92_ok v1 hv4) rfl) ?_
     refine AOps.go [5] [] [] [0, 8] 0 ⟨[(0, .tv (.int .u8 v1)), (8, tB v4)], []⟩ ?_ z0 trivial ?_
     · kernel_rfl
     cases hc3
     exact AOps.nil rfl
 subst hJ
 refine AOps.go [6] [7, 8, 9, 10] [] [0, 9] 0 ⟨[(0, .tv (.int .u8 v1)), (9, tB v3)], []⟩ ?_ z0 trivial ?_
 · kernel_rfl
 obtain ⟨v5, hc7, h⟩ := of_bind h
 refine AOps.cut [7, 8, 9] [10] (fun σ => σ = ⟨[(12, tB v5)], []⟩) ?_ fun σ' hJ => ?_
 · refine AOps.split (fun b => ⟨[(0, .tv (.int .u8 v1)), (9, tB b)], []⟩) _ (fun hb => ?_) fun hb => ?_
   · replace hc7 := of_true hc7 hb
     refine AOps.go [7, 8, 9] [] [] [12] 0 ⟨[(12, tB true)], []⟩ ?_ z0 trivial ?_
     · kernel_rfl
     cases hc7
     exact AOps.nil rfl
   · replace hc7 := of_false hc7 hb
     refine AOps.go [7, 8, 9] [] [] [12] 0 ⟨[(12, tB (v1 == (95 : Int)))], []⟩ ?_ z0 trivial ?_
     · kernel_rfl
     cases hc7
     exact AOps.nil rfl
 subst hJ
 refine AOps.go [10] [] [] [2] 0 ⟨[(2, tB v5)], []⟩ ?_ z0 trivial ?_
 · kernel_rfl
 refine AOps.nil ?_
 refine AWp.ret ?_
 cases h
 exact ⟨.inr rfl, rfl⟩

noncomputable def f71_b1 (v1 : List UInt8) (v5 : Int) : Option (Int ⊕ Out Bool Unit) :=
 cond (decide (v5 < (v1.length : Int))) (if (0 : Int) ≤ v5 ∧ v5 < (v1.length : Int) then (f83 (((v1.getD v5.toNat 0).toNat : Nat) : Int)).bind fun v6 => (cond (!v6) (some true) (if (0 : Int) ≤ v5 ∧ v5 < (v1.length : Int) then (cond (decide ((((v1.getD v5.toNat 0).toNat : Nat) : Int) ≥ (65 : Int))) (if (0 : Int) ≤ v5 ∧ v5 < (v1.length : Int) then some (decide ((((v1.getD v5.toNat 0).toNat : Nat) : Int) ≤ (90 : Int))) else none) (some false)).bind fun v8 => some v8 else none)).bind fun v7 => cond v7 (some (.inr (.ret false))) (some (.inl (w64 (v5 + (1 : Int))))) else none) (some (.inr (.go ())))

noncomputable def f71 (v1 : List UInt8) : Option Bool :=
 (cond (v1 == ([] : List UInt8)) (some true) (some (decide ((v1.length : Int) > (12 : Int))))).bind fun v2 => (cond v2 (some true) (if (0 : Int) < (v1.length : Int) then some (decide ((((v1.getD 0 0).toNat : Nat) : Int) < (97 : Int))) else none)).bind fun v3 => (cond v3 (some true) (if (0 : Int) < (v1.length : Int) then some (decide ((((v1.getD 0 0).toNat : Nat) : Int) > (122 : Int))) else none)).bind fun v4 => cond v4 (some false) ((iter (fun s => f71_b1 v1 s) (0 : Int)).bind fun y => match y with | .ret v9 => some v9 | .go _ => some true)

theorem f71_ok (v1 : List UInt8) {r : Bool} (h : f71 v1 = some r) : ACall Try.prog 71 [.tv (.str v1)] [] (.tv (.bool r)) [] := by
 refine ACall.of1 (FF 44 0) Try.func71 rfl Try.ntmps71 Try.results71 (Nat.le_of_ble_eq_true rfl) rfl rfl ?_
 refine AWp.seq ?_
 refine AWp.start [0] [] [] [0] 0 ⟨[(0, tS v1)], []⟩ rfl ?_ z0 trivial ?_
 · kernel_rfl
 refine AOps.nil ?_
 refine AWp.seq ?_
 refine AWp.seq ?_
 refine AWp.start [0, 1, 2] [3, 4, 5, 6, 7, 8, 9, 10, 11, 12, 13, 14, 15, 16] [] [0, 6] 0 ⟨[(0, tS v1), (6, tB (v1 == ([] : List UInt8)))], []⟩ rfl ?_ z0 trivial ?_
 · kernel_rfl
 obtain ⟨v2, hc3, h⟩ := of_bind h
 refine AOps.cut [3, 4, 5, 6] [7, 8, 9, 10, 11, 12, 13, 14, 15, 16] (fun σ => σ = ⟨[(0, tS v1), (10, tB v2)], []⟩) ?_ fun σ' hJ => ?_
 · refine AOps.split (fun b => ⟨[(0, tS v1), (6, tB b)], []⟩) _ (fun hb => ?_) fun hb => ?_
   · replace hc3 := of_true hc3 hb
     refine AOps.go [3, 4, 5, 6] [] [] [0, 10] 0 ⟨[(0, tS v1), (10, tB true)], []⟩ ?_ z0 trivial ?_
     · kernel_rfl
     cases hc3
     exact AOps.nil rfl
   · replace hc3 := of_false hc3 hb
     refine AOps.go [3, 4, 5, 6] [] [] [0, 10] 0 ⟨[(0, tS v1), (10, tB (decide ((v1.length : Int) > (12 : Int))))], []⟩ ?_ z0 trivial ?_
     · kernel_rfl
     cases hc3
     exact AOps.nil rfl
 subst hJ
 refine AOps.go [7] [8, 9, 10, 11, 12, 13, 14, 15, 16] [] [0, 11] 0 ⟨[(0, tS v1), (11, tB v2)], []⟩ ?_ z0 trivial ?_
 · kernel_rfl
 obtain ⟨v3, hc8, h⟩ := of_bind h
 refine AOps.cut [8, 9, 10, 11] [12, 13, 14, 15, 16] (fun σ => σ = ⟨[(0, tS v1), (15, tB v3)], []⟩) ?_ fun σ' hJ => ?_
 · refine AOps.split (fun b => ⟨[(0, tS v1), (11, tB b)], []⟩) _ (fun hb => ?_) fun hb => ?_
   · replace hc8 := of_true hc8 hb
     refine AOps.go [8, 9, 10, 11] [] [] [0, 15] 0 ⟨[(0, tS v1), (15, tB true)], []⟩ ?_ z0 trivial ?_
     · kernel_rfl
     cases hc8
     exact AOps.nil rfl
   · replace hc8 := of_false hc8 hb
     obtain ⟨hg, hc8⟩ := of_guard hc8
     refine AOps.go [8, 9, 10, 11] [] [(0 : Int) ≤ (0 : Int), (0 : Int) < (v1.length : Int)] [0, 15] 0 ⟨[(0, tS v1), (15, tB (decide ((((v1.getD 0 0).toNat : Nat) : Int) < (97 : Int))))], []⟩ ?_ z0 ⟨(by decide : (0 : Int) ≤ (0 : Int)), hg⟩ ?_
     · kernel_rfl
     cases hc8
     exact AOps.nil rfl
 subst hJ
 refine AOps.go [12] [13, 14, 15, 16] [] [0, 16] 0 ⟨[(0, tS v1), (16, tB v3)], []⟩ ?_ z0 trivial ?_
 · kernel_rfl
 obtain ⟨v4, hc13, h⟩ := of_bind h
 refine AOps.cut [13, 14, 15, 16] [] (fun σ => σ = ⟨[(0, tS v1), (20, tB v4)], []⟩) ?_ fun σ' hJ => ?_
 · refine AOps.split (fun b => ⟨[(0, tS v1), (16, tB b)], []⟩) _ (fun hb => ?_) fun hb => ?_
   · replace hc13 := of_true hc13 hb
     refine AOps.go [13, 14, 15, 16] [] [] [0, 20] 0 ⟨[(0, tS v1), (20, tB true)], []⟩ ?_ z0 trivial ?_
     · kernel_rfl
     cases hc13
     exact AOps.nil rfl
   · replace hc13 := of_false hc13 hb
     obtain ⟨hg, hc13⟩ := of_guard hc13
     refine AOps.go [13, 14, 15, 16] [] [(0 : Int) ≤ (0 : Int), (0 : Int) < (v1.length : Int)] [0, 20] 0 ⟨[(0, tS v1), (20, tB (decide ((((v1.getD 0 0).toNat : Nat) : Int) > (122 : Int))))], []⟩ ?_ z0 ⟨(by decide : (0 : Int) ≤ (0 : Int)), hg⟩ ?_
     · kernel_rfl
     cases hc13
     exact AOps.nil rfl
 subst hJ
 refine AOps.nil ?_
 refine AWp.cond rfl (fun hb => ?_) fun hb => ?_
 · replace h := of_true h hb
   refine AWp.keepTo [] 0 ⟨[], []⟩ ?_ z0 ?_
   · kernel_rfl
   refine AWp.seq ?_
   refine AWp.start [0] [] [] [2] 0 ⟨[(2, tB false)], []⟩ rfl ?_ z0 trivial ?_
   · kernel_rfl
   refine AOps.nil ?_
   refine AWp.ret ?_
   cases h
   exact ⟨.inr rfl, rfl⟩
 · replace h := of_false h hb
   refine AWp.keepTo [0] 0 ⟨[(0, tS v1)], []⟩ ?_ z0 ?_
   · kernel_rfl
   refine AWp.skip ?_
   refine AWp.seq ?_
   refine AWp.seq ?_
   refine AWp.start [0] [] [] [0, 3] 0 ⟨[(0, tS v1), (3, tI (0 : Int))], []⟩ rfl ?_ z0 trivial ?_
   · kernel_rfl
   refine AOps.nil ?_
   refine AWp.block ?_
   obtain ⟨y, hy, h⟩ := of_bind h
   refine AWp.mono (AWp.loop (S := Int) (Y := Out Bool Unit) (fun s => ⟨[(0, tS v1), (3, tI s)], []⟩) (fun s => f71_b1 v1 s) (fun y e σ => match y with | .ret r => e = .ret ∧ σ = ⟨[(2, tB r)], []⟩ | .go v => e = .exit 0 ∧ σ = ⟨[], []⟩) ?_ hy) ?_
   · rintro v5 o h
     refine AWp.seq ?_
     refine AWp.seq ?_
     refine AWp.start [0, 1, 2, 3] [] [] [0, 3, 24] 0 ⟨[(0, tS v1), (3, tI v5), (24, tB (decide (v5 < (v1.length : Int))))], []⟩ rfl ?_ z0 trivial ?_
     · kernel_rfl
     refine AOps.nil ?_
     refine AWp.cond rfl (fun hb => ?_) fun hb => ?_
     · replace h := of_true h hb
       refine AWp.keepTo [0, 3] 0 ⟨[(0, tS v1), (3, tI v5)], []⟩ ?_ z0 ?_
       · kernel_rfl
       refine AWp.skip ?_
       refine AWp.seq ?_
       refine AWp.block ?_
       refine AWp.seq ?_
       obtain ⟨hg, h⟩ := of_guard h
       refine AWp.start [0, 1, 2] [3, 4, 5, 6, 7, 8, 9, 10, 11, 12, 13, 14, 15, 16] [(0 : Int) ≤ v5, v5 < (v1.length : Int)] [0, 3, 29] 0 ⟨[(0, tS v1), (3, tI v5), (29, .tv (.int .u8 (((v1.getD v5.toNat 0).toNat : Nat) : Int)))], []⟩ rfl ?_ z0 ⟨hg.1, hg.2⟩ ?_
       · kernel_rfl
       obtain ⟨v6, hv6, h⟩ := of_bind h
       refine AOps.cons (AOne.callP (F := (FF 44 0)) _ rfl rfl rfl _ rfl rfl _ _ rfl Try.call83 [.tv (.int .u8 (((v1.getD v5.toNat 0).toNat : Nat) : Int))] rfl rfl (f83_ok (((v1.getD v5.toNat 0).toNat : Nat) : Int) hv6) rfl) ?_
       refine AOps.go [4, 5] [6, 7, 8, 9, 10, 11, 12, 13, 14, 15, 16] [] [0, 3, 32] 0 ⟨[(0, tS v1), (3, tI v5), (32, tB (!v6))], []⟩ ?_ z0 trivial ?_
       · kernel_rfl
       obtain ⟨v7, hc6, h⟩ := of_bind h
       refine AOps.cut [6, 7, 8, 9, 10, 11, 12, 13, 14, 15, 16] [] (fun σ => σ = ⟨[(0, tS v1), (3, tI v5), (43, tB v7)], []⟩) ?_ fun σ' hJ => ?_
       · refine AOps.split (fun b => ⟨[(0, tS v1), (3, tI v5), (32, tB b)], []⟩) _ (fun hb => ?_) fun hb => ?_
         · replace hc6 := of_true hc6 hb
           refine AOps.go [6, 7, 8, 9, 10, 11, 12, 13, 14, 15, 16] [] [] [0, 3, 43] 0 ⟨[(0, tS v1), (3, tI v5), (43, tB true)], []⟩ ?_ z0 trivial ?_
           · kernel_rfl
           cases hc6
           exact AOps.nil rfl
         · replace hc6 := of_false hc6 hb
           obtain ⟨hg, hc6⟩ := of_guard hc6
           refine AOps.go [6, 7, 8, 9, 10] [11, 12, 13, 14, 15, 16] [(0 : Int) ≤ v5, v5 < (v1.length : Int)] [0, 3, 32, 37] 0 ⟨[(0, tS v1), (3, tI v5), (32, tB false), (37, tB (decide ((((v1.getD v5.toNat 0).toNat : Nat) : Int) ≥ (65 : Int))))], []⟩ ?_ z0 ⟨hg.1, hg.2⟩ ?_
           · kernel_rfl
           obtain ⟨v8, hc11, hc6⟩ := of_bind hc6
           refine AOps.cut [11, 12, 13, 14, 15] [16] (fun σ => σ = ⟨[(0, tS v1), (3, tI v5), (32, tB false), (42, tB v8)], []⟩) ?_ fun σ' hJ => ?_
           · refine AOps.split (fun b => ⟨[(0, tS v1), (3, tI v5), (32, tB false), (37, tB b)], []⟩) _ (fun hb => ?_) fun hb => ?_
             · replace hc11 := of_true hc11 hb
               obtain ⟨hg, hc11⟩ := of_guard hc11
               refine AOps.go [11, 12, 13, 14, 15] [] [(0 : Int) ≤ v5, v5 < (v1.length : Int)] [0, 3, 32, 42] 0 ⟨[(0, tS v1), (3, tI v5), (32, tB false), (42, tB (decide ((((v1.getD v5.toNat 0).toNat : Nat) : Int) ≤ (90 : Int))))], []⟩ ?_ z0 ⟨hg.1, hg.2⟩ ?_
               · kernel_rfl
               cases hc11
               exact AOps.nil rfl
             · replace hc11 := of_false hc11 hb
               refine AOps.go [11, 12, 13, 14, 15] [] [] [0, 3, 32, 42] 0 ⟨[(0, tS v1), (3, tI v5), (32, tB false), (42, tB false)], []⟩ ?_ z0 trivial ?_
               · kernel_rfl
               cases hc11
               exact AOps.nil rfl
           subst hJ
           refine AOps.go [16] [] [] [0, 3, 43] 0 ⟨[(0, tS v1), (3, tI v5), (43, tB v8)], []⟩ ?_ z0 trivial ?_
           · kernel_rfl
           cases hc6
           exact AOps.nil rfl
       subst hJ
       refine AOps.nil ?_
       refine AWp.cond rfl (fun hb => ?_) fun hb => ?_
       · replace h := of_true h hb
         refine AWp.keepTo [] 0 ⟨[], []⟩ ?_ z0 ?_
         · kernel_rfl
         refine AWp.seq ?_
         refine AWp.start [0] [] [] [2] 0 ⟨[(2, tB false)], []⟩ rfl ?_ z0 trivial ?_
         · kernel_rfl
         refine AOps.nil ?_
         refine AWp.ret ?_
         cases h
         exact Or.inr ⟨_, rfl, by simp, rfl, rfl⟩
       · replace h := of_false h hb
         refine AWp.keepTo [0, 3] 0 ⟨[(0, tS v1), (3, tI v5)], []⟩ ?_ z0 ?_
         · kernel_rfl
         refine AWp.skip ?_
         refine AWp.start [0, 1, 2] [] [] [0, 3] 0 ⟨[(0, tS v1), (3, tI (w64 (v5 + (1 : Int))))], []⟩ rfl ?_ z0 trivial ?_
         · kernel_rfl
         refine AOps.nil ?_
         cases h
         exact Or.inl ⟨_, rfl, rfl, rfl⟩
     · replace h := of_false h hb
       refine AWp.keepTo [] 0 ⟨[], []⟩ ?_ z0 ?_
       · kernel_rfl
       refine AWp.exit ?_
       cases h
       exact Or.inr ⟨_, rfl, by simp, rfl, rfl⟩
   · intro e σ hp
     rcases y with v9 | _
     · obtain ⟨rfl, rfl⟩ := hp
       cases h
       exact ⟨.inr rfl, rfl⟩
     · obtain ⟨rfl, rfl⟩ := hp
       refine AWp.seq ?_
       refine AWp.start [0] [] [] [2] 0 ⟨[(2, tB true)], []⟩ rfl ?_ z0 trivial ?_
       · kernel_rfl
       refine AOps.nil ?_
       refine AWp.ret ?_
       cases h
       exact ⟨.inr rfl, rfl⟩

noncomputable def f38_b1 (v1 : T62) (v9 : Bool) (v10 : Int) : Option ((Bool × Int) ⊕ Out Bool Bool) :=
 cond (decide (v10 < (v1.f3.length : Int))) (if (0 : Int) ≤ v10 ∧ v10 < (v1.f3.length : Int) then (cond v9 ((f71 ((v1.f3.getD v10.toNat default).f0)).bind fun v13 => some v13) (some false)).bind fun v12 => (cond v12 ((cond (((v1.f3.getD v10.toNat default).f1) == ([] : List UInt8)) (some true) ((f71 ((v1.f3.getD v10.toNat default).f1)).bind fun v16 => some v16)).bind fun v15 => some v15) (some false)).bind fun v14 => (cond v14 (some (decide ((v1.f3.getD v10.toNat default).f2 ≥ (0 : Int)))) (some false)).bind fun v17 => (cond v17 (some (decide ((v1.f3.getD v10.toNat default).f2 ≤ (100 : Int)))) (some false)).bind fun v18 => some (.inl (v18, w64 (v10 + (1 : Int)))) else none) (some (.inr (.go v9)))

noncomputable def f38_b2 (v1 : T62) (v20 : Bool) (v21 : Int) : Option ((Bool × Int) ⊕ Out Bool Bool) :=
 cond (decide (v21 < (v1.f4.length : Int))) (if (0 : Int) ≤ v21 ∧ v21 < (v1.f4.length : Int) then (cond v20 ((f71 ((v1.f4.getD v21.toNat default).f0)).bind fun v24 => some v24) (some false)).bind fun v23 => (cond v23 ((cond (((v1.f4.getD v21.toNat default).f1) == ([] : List UInt8)) (some true) ((f71 ((v1.f4.getD v21.toNat default).f1)).bind fun v27 => some v27)).bind fun v26 => some v26) (some false)).bind fun v25 => some (.inl (v25, w64 (v21 + (1 : Int)))) else none) (some (.inr (.go v20)))

noncomputable def f38 (v1 : T62) : Option Bool :=
 (f71 v1.f0).bind fun v2 => (cond v2 ((cond (v1.f1 == ([] : List UInt8)) (some true) ((f71 v1.f1).bind fun v5 => some v5)).bind fun v4 => some v4) (some false)).bind fun v3 => (cond v3 ((cond (v1.f5 == ([] : List UInt8)) (some true) ((f71 v1.f5).bind fun v8 => some v8)).bind fun v7 => some v7) (some false)).bind fun v6 => (iter (fun s => f38_b1 v1 s.1 s.2) (v6, (0 : Int))).bind fun y => match y with | .ret v19 => some v19 | .go v11 => (iter (fun s => f38_b2 v1 s.1 s.2) (v11, (0 : Int))).bind fun y => match y with | .ret v28 => some v28 | .go v22 => some v22

theorem f38_ok (v1 : T62) {r : Bool} (h : f38 v1 = some r) : ACall Try.prog 38 [.agg [.str v1.f0, .str v1.f1, .bool v1.f2, fzL 3 c35 v1.f3, fzL 2 c94 v1.f4, .str v1.f5]] [] (.tv (.bool r)) [] := by
 refine ACall.of1 (FF 98 0) Try.func38 rfl Try.ntmps38 Try.results38 (Nat.le_of_ble_eq_true rfl) rfl rfl ?_
 refine AWp.seq ?_
 refine AWp.start [0, 1] [] [] [1] 1 ⟨[(1, .pc 0 0)], [.cells 63 [.str v1.f0, .str v1.f1, .bool v1.f2, k1 v1.f3, k3 v1.f4, .str v1.f5]]⟩ rfl ?_ z0 trivial ?_
 · kernel_rfl
 refine AOps.nil ?_
 refine AWp.seq ?_
 refine AWp.pin 0 rfl rfl ?_
 refine AWp.keepTo [1] 0 ⟨[(1, .rp [.str v1.f0, .str v1.f1, .bool v1.f2, k1 v1.f3, k3 v1.f4, .str v1.f5])], []⟩ ?_ z0 ?_
 · kernel_rfl
 refine AWp.start [0, 1] [2, 3, 4, 5, 6, 7, 8, 9, 10, 11, 12, 13, 14, 15, 16, 17, 18, 19, 20, 21, 22, 23] [] [1, 9] 0 ⟨[(1, .rp [.str v1.f0, .str v1.f1, .bool v1.f2, k1 v1.f3, k3 v1.f4, .str v1.f5]), (9, tS v1.f0)], []⟩ rfl ?_ z0 trivial ?_
 · kernel_rfl
 obtain ⟨v2, hv2, h⟩ := of_bind h
 refine AOps.cons (AOne.callP (F := (FF 98 0)) _ rfl rfl rfl _ rfl rfl _ _ rfl Try.call71 [tS v1.f0] rfl rfl (f71_ok v1.f0 hv2) rfl) ?_
 refine AOps.go [3] [4, 5, 6, 7, 8, 9, 10, 11, 12, 13, 14, 15, 16, 17, 18, 19, 20, 21, 22, 23] [] [1, 11] 0 ⟨[(1, .rp [.str v1.f0, .str v1.f1, .bool v1.f2, k1 v1.f3, k3 v1.f4, .str v1.f5]), (11, tB v2)], []⟩ ?_ z0 trivial ?_
 · kernel_rfl
 obtain ⟨v3, hc4, h⟩ := of_bind h
 refine AOps.cut [4, 5, 6, 7, 8, 9, 10, 11, 12] [13, 14, 15, 16, 17, 18, 19, 20, 21, 22, 23] (fun σ => σ = ⟨[(1, .rp [.str v1.f0, .str v1.f1, .bool v1.f2, k1 v1.f3, k3 v1.f4, .str v1.f5]), (20, tB v3)], []⟩) ?_ fun σ' hJ => ?_
 · refine AOps.split (fun b => ⟨[(1, .rp [.str v1.f0, .str v1.f1, .bool v1.f2, k1 v1.f3, k3 v1.f4, .str v1.f5]), (11, tB b)], []⟩) _ (fun hb => ?_) fun hb => ?_
   · replace hc4 := of_true hc4 hb
     refine AOps.go [4, 5, 6, 7] [8, 9, 10, 11, 12] [] [1, 11, 15] 0 ⟨[(1, .rp [.str v1.f0, .str v1.f1, .bool v1.f2, k1 v1.f3, k3 v1.f4, .str v1.f5]), (11, tB true), (15, tB (v1.f1 == ([] : List UInt8)))], []⟩ ?_ z0 trivial ?_
     · kernel_rfl
     obtain ⟨v4, hc8, hc4⟩ := of_bind hc4
     refine AOps.cut [8, 9, 10, 11] [12] (fun σ => σ = ⟨[(1, .rp [.str v1.f0, .str v1.f1, .bool v1.f2, k1 v1.f3, k3 v1.f4, .str v1.f5]), (11, tB true), (19, tB v4)], []⟩) ?_ fun σ' hJ => ?_
     · refine AOps.split (fun b => ⟨[(1, .rp [.str v1.f0, .str v1.f1, .bool v1.f2, k1 v1.f3, k3 v1.f4, .str v1.f5]), (11, tB true), (15, tB b)], []⟩) _ (fun hb => ?_) fun hb => ?_
       · replace hc8 := of_true hc8 hb
         refine AOps.go [8, 9, 10, 11] [] [] [1, 11, 19] 0 ⟨[(1, .rp [.str v1.f0, .str v1.f1, .bool v1.f2, k1 v1.f3, k3 v1.f4, .str v1.f5]), (11, tB true), (19, tB true)], []⟩ ?_ z0 trivial ?_
         · kernel_rfl
         cases hc8
         exact AOps.nil rfl
       · replace hc8 := of_false hc8 hb
         refine AOps.go [8, 9] [10, 11] [] [1, 11, 15, 17] 0 ⟨[(1, .rp [.str v1.f0, .str v1.f1, .bool v1.f2, k1 v1.f3, k3 v1.f4, .str v1.f5]), (11, tB true), (15, tB false), (17, tS v1.f1)], []⟩ ?_ z0 trivial ?_
         · kernel_rfl
         obtain ⟨v5, hv5, hc8⟩ := of_bind hc8
         refine AOps.cons (AOne.callP (F := (FF 98 0)) _ rfl rfl rfl _ rfl rfl _ _ rfl Try.call71 [tS v1.f1] rfl rfl (f71_ok v1.f1 hv5) rfl) ?_
         refine AOps.go [11] [] [] [1, 11, 19] 0 ⟨[(1, .rp [.str v1.f0, .str v1.f1, .bool v1.f2, k1 v1.f3, k3 v1.f4, .str v1.f5]), (11, tB true), (19, tB v5)], []⟩ ?_ z0 trivial ?_
         · kernel_rfl
         cases hc8
         exact AOps.nil rfl
     subst hJ
     refine AOps.go [12] [] [] [1, 20] 0 ⟨[(1, .rp [.str v1.f0, .str v1.f1, .bool v1.f2, k1 v1.f3, k3 v1.f4, .str v1.f5]), (20, tB v4)], []⟩ ?_ z0 trivial ?_
     · kernel_rfl
     cases hc4
     exact AOps.nil rfl
   · replace hc4 := of_false hc4 hb
     refine AOps.go [4, 5, 6, 7, 8, 9, 10, 11, 12] [] [] [1, 20] 0 ⟨[(1, .rp [.str v1.f0, .str v1.f1, .bool v1.f2, k1 v1.f3, k3 v1.f4, .str v1.f5]), (20, tB false)], []⟩ ?_ z0 trivial ?_
     · kernel_rfl
     cases hc4
     exact AOps.nil rfl
 subst hJ
 refine AOps.go [13] [14, 15, 16, 17, 18, 19, 20, 21, 22, 23] [] [1, 21] 0 ⟨[(1, .rp [.str v1.f0, .str v1.f1, .bool v1.f2, k1 v1.f3, k3 v1.f4, .str v1.f5]), (21, tB v3)], []⟩ ?_ z0 trivial ?_
 · kernel_rfl
 obtain ⟨v6, hc14, h⟩ := of_bind h
 refine AOps.cut [14, 15, 16, 17, 18, 19, 20, 21, 22] [23] (fun σ => σ = ⟨[(1, .rp [.str v1.f0, .str v1.f1, .bool v1.f2, k1 v1.f3, k3 v1.f4, .str v1.f5]), (30, tB v6)], []⟩) ?_ fun σ' hJ => ?_
 · refine AOps.split (fun b => ⟨[(1, .rp [.str v1.f0, .str v1.f1, .bool v1.f2, k1 v1.f3, k3 v1.f4, .str v1.f5]), (21, tB b)], []⟩) _ (fun hb => ?_) fun hb => ?_
   · replace hc14 := of_true hc14 hb
     refine AOps.go [14, 15, 16, 17] [18, 19, 20, 21, 22] [] [1, 21, 25] 0 ⟨[(1, .rp [.str v1.f0, .str v1.f1, .bool v1.f2, k1 v1.f3, k3 v1.f4, .str v1.f5]), (21, tB true), (25, tB (v1.f5 == ([] : List UInt8)))], []⟩ ?_ z0 trivial ?_
     · kernel_rfl
     obtain ⟨v7, hc18, hc14⟩ := of_bind hc14
     refine AOps.cut [18, 19, 20, 21] [22] (fun σ => σ = ⟨[(1, .rp [.str v1.f0, .str v1.f1, .bool v1.f2, k1 v1.f3, k3 v1.f4, .str v1.f5]), (21, tB true), (29, tB v7)], []⟩) ?_ fun σ' hJ => ?_
     · refine AOps.split (fun b => ⟨[(1, .rp [.str v1.f0, .str v1.f1, .bool v1.f2, k1 v1.f3, k3 v1.f4, .str v1.f5]), (21, tB true), (25, tB b)], []⟩) _ (fun hb => ?_) fun hb => ?_
       · replace hc18 := of_true hc18 hb
         refine AOps.go [18, 19, 20, 21] [] [] [1, 21, 29] 0 ⟨[(1, .rp [.str v1.f0, .str v1.f1, .bool v1.f2, k1 v1.f3, k3 v1.f4, .str v1.f5]), (21, tB true), (29, tB true)], []⟩ ?_ z0 trivial ?_
         · kernel_rfl
         cases hc18
         exact AOps.nil rfl
       · replace hc18 := of_false hc18 hb
         refine AOps.go [18, 19] [20, 21] [] [1, 21, 25, 27] 0 ⟨[(1, .rp [.str v1.f0, .str v1.f1, .bool v1.f2, k1 v1.f3, k3 v1.f4, .str v1.f5]), (21, tB true), (25, tB false), (27, tS v1.f5)], []⟩ ?_ z0 trivial ?_
         · kernel_rfl
         obtain ⟨v8, hv8, hc18⟩ := of_bind hc18
         refine AOps.cons (AOne.callP (F := (FF 98 0)) _ rfl rfl rfl _ rfl rfl _ _ rfl Try.call71 [tS v1.f5] rfl rfl (f71_ok v1.f5 hv8) rfl) ?_
         refine AOps.go [21] [] [] [1, 21, 29] 0 ⟨[(1, .rp [.str v1.f0, .str v1.f1, .bool v1.f2, k1 v1.f3, k3 v1.f4, .str v1.f5]), (21, tB true), (29, tB v8)], []⟩ ?_ z0 trivial ?_
         · kernel_rfl
         cases hc18
         exact AOps.nil rfl
     subst hJ
     refine AOps.go [22] [] [] [1, 30] 0 ⟨[(1, .rp [.str v1.f0, .str v1.f1, .bool v1.f2, k1 v1.f3, k3 v1.f4, .str v1.f5]), (30, tB v7)], []⟩ ?_ z0 trivial ?_
     · kernel_rfl
     cases hc14
     exact AOps.nil rfl
   · replace hc14 := of_false hc14 hb
     refine AOps.go [14, 15, 16, 17, 18, 19, 20, 21, 22] [] [] [1, 30] 0 ⟨[(1, .rp [.str v1.f0, .str v1.f1, .bool v1.f2, k1 v1.f3, k3 v1.f4, .str v1.f5]), (30, tB false)], []⟩ ?_ z0 trivial ?_
     · kernel_rfl
     cases hc14
     exact AOps.nil rfl
 subst hJ
 refine AOps.go [23] [] [] [1, 3] 0 ⟨[(1, .rp [.str v1.f0, .str v1.f1, .bool v1.f2, k1 v1.f3, k3 v1.f4, .str v1.f5]), (3, tB v6)], []⟩ ?_ z0 trivial ?_
 · kernel_rfl
 refine AOps.nil ?_
 refine AWp.seq ?_
 refine AWp.seq ?_
 refine AWp.start [0] [] [] [1, 3, 4] 0 ⟨[(1, .rp [.str v1.f0, .str v1.f1, .bool v1.f2, k1 v1.f3, k3 v1.f4, .str v1.f5]), (3, tB v6), (4, tI (0 : Int))], []⟩ rfl ?_ z0 trivial ?_
 · kernel_rfl
 refine AOps.nil ?_
 refine AWp.block ?_
 obtain ⟨y, hy, h⟩ := of_bind h
 refine AWp.mono (AWp.loop (S := Bool × Int) (Y := Out Bool Bool) (fun s => ⟨[(1, .rp [.str v1.f0, .str v1.f1, .bool v1.f2, k1 v1.f3, k3 v1.f4, .str v1.f5]), (3, tB s.1), (4, tI s.2)], []⟩) (fun s => f38_b1 v1 s.1 s.2) (fun y e σ => match y with | .ret r => e = .ret ∧ σ = ⟨[(2, tB r)], []⟩ | .go v => e = .exit 0 ∧ σ = ⟨[(1, .rp [.str v1.f0, .str v1.f1, .bool v1.f2, k1 v1.f3, k3 v1.f4, .str v1.f5]), (3, tB v)], []⟩) ?_ hy) ?_
 · rintro ⟨v9, v10⟩ o h
   refine AWp.seq ?_
   refine AWp.seq ?_
   refine AWp.start [0, 1, 2, 3, 4] [] [] [1, 3, 4, 35] 0 ⟨[(1, .rp [.str v1.f0, .str v1.f1, .bool v1.f2, k1 v1.f3, k3 v1.f4, .str v1.f5]), (3, tB v9), (4, tI v10), (35, tB (decide (v10 < (v1.f3.length : Int))))], []⟩ rfl ?_ z0 trivial ?_
   · kernel_rfl
   refine AOps.nil ?_
   refine AWp.cond rfl (fun hb => ?_) fun hb => ?_
   · replace h := of_true h hb
     refine AWp.keepTo [1, 3, 4] 0 ⟨[(1, .rp [.str v1.f0, .str v1.f1, .bool v1.f2, k1 v1.f3, k3 v1.f4, .str v1.f5]), (3, tB v9), (4, tI v10)], []⟩ ?_ z0 ?_
     · kernel_rfl
     refine AWp.skip ?_
     refine AWp.seq ?_
     refine AWp.block ?_
     refine AWp.seq ?_
     obtain ⟨hg, h⟩ := of_guard h
     refine AWp.start [0, 1, 2, 3, 4, 5, 6] [] [(0 : Int) ≤ v10, v10 < (v1.f3.length : Int)] [1, 3, 4, 5] 1 ⟨[(1, .rp [.str v1.f0, .str v1.f1, .bool v1.f2, k1 v1.f3, k3 v1.f4, .str v1.f5]), (3, tB v9), (4, tI v10), (5, .pc 0 0)], [.cells 36 (c35 (gD v1.f3 v10))]⟩ rfl ?_ z0 ⟨hg.1, hg.2⟩ ?_
     · kernel_rfl
     refine AOps.nil ?_
     refine AWp.pin 0 rfl rfl ?_
     refine AWp.keepTo [1, 3, 4, 5] 0 ⟨[(1, .rp [.str v1.f0, .str v1.f1, .bool v1.f2, k1 v1.f3, k3 v1.f4, .str v1.f5]), (3, tB v9), (4, tI v10), (5, .rp (c35 (gD v1.f3 v10)))], []⟩ ?_ z0 ?_
     · kernel_rfl
     refine AWp.start [0, 1] [2, 3, 4, 5, 6, 7, 8, 9, 10, 11, 12, 13, 14, 15, 16, 17, 18, 19, 20, 21, 22, 23, 24, 25, 26] [] [1, 4, 5, 44] 0 ⟨[(1, .rp [.str v1.f0, .str v1.f1, .bool v1.f2, k1 v1.f3, k3 v1.f4, .str v1.f5]), (4, tI v10), (5, .rp (c35 (gD v1.f3 v10))), (44, tB v9)], []⟩ rfl ?_ z0 trivial ?_
     · kernel_rfl
     obtain ⟨v12, hc2, h⟩ := of_bind h
     refine AOps.cut [2, 3, 4, 5] [6, 7, 8, 9, 10, 11, 12, 13, 14, 15, 16, 17, 18, 19, 20, 21, 22, 23, 24, 25, 26] (fun σ => σ = ⟨[(1, .rp [.str v1.f0, .str v1.f1, .bool v1.f2, k1 v1.f3, k3 v1.f4, .str v1.f5]), (4, tI v10), (5, .rp (c35 (gD v1.f3 v10))), (48, tB v12)], []⟩) ?_ fun σ' hJ => ?_
     · refine AOps.split (fun b => ⟨[(1, .rp [.str v1.f0, .str v1.f1, .bool v1.f2, k1 v1.f3, k3 v1.f4, .str v1.f5]), (4, tI v10), (5, .rp (c35 (gD v1.f3 v10))), (44, tB b)], []⟩) _ (fun hb => ?_) fun hb => ?_
       · replace hc2 := of_true hc2 hb
         refine AOps.go [2, 3] [4, 5] [] [1, 4, 5, 44, 46] 0 ⟨[(1, .rp [.str v1.f0, .str v1.f1, .bool v1.f2, k1 v1.f3, k3 v1.f4, .str v1.f5]), (4, tI v10), (5, .rp (c35 (gD v1.f3 v10))), (44, tB true), (46, tS ((gD v1.f3 v10).f0))], []⟩ ?_ z0 trivial ?_
         · kernel_rfl
         obtain ⟨v13, hv13, hc2⟩ := of_bind hc2
         refine AOps.cons (AOne.callP (F := (FF 98 0)) _ rfl rfl rfl _ rfl rfl _ _ rfl Try.call71 [tS ((gD v1.f3 v10).f0)] rfl rfl (f71_ok ((gD v1.f3 v10).f0) hv13) rfl) ?_
         refine AOps.go [5] [] [] [1, 4, 5, 48] 0 ⟨[(1, .rp [.str v1.f0, .str v1.f1, .bool v1.f2, k1 v1.f3, k3 v1.f4, .str v1.f5]), (4, tI v10), (5, .rp (c35 (gD v1.f3 v10))), (48, tB v13)], []⟩ ?_ z0 trivial ?_
         · kernel_rfl
         cases hc2
         exact AOps.nil rfl
       · replace hc2 := of_false hc2 hb
         refine AOps.go [2, 3, 4, 5] [] [] [1, 4, 5, 48] 0 ⟨[(1, .rp [.str v1.f0, .str v1.f1, .bool v1.f2, k1 v1.f3, k3 v1.f4, .str v1.f5]), (4, tI v10), (5, .rp (c35 (gD v1.f3 v10))), (48, tB false)], []⟩ ?_ z0 trivial ?_
         · kernel_rfl
         cases hc2
         exact AOps.nil rfl
     subst hJ
     refine AOps.go [6] [7, 8, 9, 10, 11, 12, 13, 14, 15, 16, 17, 18, 19, 20, 21, 22, 23, 24, 25, 26] [] [1, 4, 5, 49] 0 ⟨[(1, .rp [.str v1.f0, .str v1.f1, .bool v1.f2, k1 v1.f3, k3 v1.f4, .str v1.f5]), (4, tI v10), (5, .rp (c35 (gD v1.f3 v10))), (49, tB v12)], []⟩ ?_ z0 trivial ?_
     · kernel_rfl
     obtain ⟨v14, hc7, h⟩ := of_bind h
     refine AOps.cut [7, 8, 9, 10, 11, 12, 13, 14, 15] [16, 17, 18, 19, 20, 21, 22, 23, 24, 25, 26] (fun σ => σ = ⟨[(1, .rp [.str v1.f0, .str v1.f1, .bool v1.f2, k1 v1.f3, k3 v1.f4, .str v1.f5]), (4, tI v10), (5, .rp (c35 (gD v1.f3 v10))), (58, tB v14)], []⟩) ?_ fun σ' hJ => ?_
     · refine AOps.split (fun b => ⟨[(1, .rp [.str v1.f0, .str v1.f1, .bool v1.f2, k1 v1.f3, k3 v1.f4, .str v1.f5]), (4, tI v10), (5, .rp (c35 (gD v1.f3 v10))), (49, tB b)], []⟩) _ (fun hb => ?_) fun hb => ?_
       · replace hc7 := of_true hc7 hb
         refine AOps.go [7, 8, 9, 10] [11, 12, 13, 14, 15] [] [1, 4, 5, 49, 53] 0 ⟨[(1, .rp [.str v1.f0, .str v1.f1, .bool v1.f2, k1 v1.f3, k3 v1.f4, .str v1.f5]), (4, tI v10), (5, .rp (c35 (gD v1.f3 v10))), (49, tB true), (53, tB (((gD v1.f3 v10).f1) == ([] : List UInt8)))], []⟩ ?_ z0 trivial ?_
         · kernel_rfl
         obtain ⟨v15, hc11, hc7⟩ := of_bind hc7
         refine AOps.cut [11, 12, 13, 14] [15] (fun σ => σ = ⟨[(1, .rp [.str v1.f0, .str v1.f1, .bool v1.f2, k1 v1.f3, k3 v1.f4, .str v1.f5]), (4, tI v10), (5, .rp (c35 (gD v1.f3 v10))), (49, tB true), (57, tB v15)], []⟩) ?_ fun σ' hJ => ?_
         · refine AOps.split (fun b => ⟨[(1, .rp [.str v1.f0, .str v1.f1, .bool v1.f2, k1 v1.f3, k3 v1.f4, .str v1.f5]), (4, tI v10), (5, .rp (c35 (gD v1.f3 v10))), (49, tB true), (53, tB b)], []⟩) _ (fun hb => ?_) fun hb => ?_
           · replace hc11 := of_true hc11 hb
             refine AOps.go [11, 12, 13, 14] [] [] [1, 4, 5, 49, 57] 0 ⟨[(1, .rp [.str v1.f0, .str v1.f1, .bool v1.f2, k1 v1.f3, k3 v1.f4, .str v1.f5]), (4, tI v10), (5, .rp (c35 (gD v1.f3 v10))), (49, tB true), (57, tB true)], []⟩ ?_ z0 trivial ?_
             · kernel_rfl
             cases hc11
             exact AOps.nil rfl
           · replace hc11 := of_false hc11 hb
             refine AOps.go [11, 12] [13, 14] [] [1, 4, 5, 49, 53, 55] 0 ⟨[(1, .rp [.str v1.f0, .str v1.f1, .bool v1.f2, k1 v1.f3, k3 v1.f4, .str v1.f5]), (4, tI v10), (5, .rp (c35 (gD v1.f3 v10))), (49, tB true), (53, tB false), (55, tS ((gD v1.f3 v10).f1))], []⟩ ?_ z0 trivial ?_
             · kernel_rfl
             obtain ⟨v16, hv16, hc11⟩ := of_bind hc11
             refine AOps.cons (AOne.callP (F := (FF 98 0)) _ rfl rfl rfl _ rfl rfl _ _ rfl Try.call71 [tS ((gD v1.f3 v10).f1)] rfl rfl (f71_ok ((gD v1.f3 v10).f1) hv16) rfl) ?_
             refine AOps.go [14] [] [] [1, 4, 5, 49, 57] 0 ⟨[(1, .rp [.str v1.f0, .str v1.f1, .bool v1.f2, k1 v1.f3, k3 v1.f4, .str v1.f5]), (4, tI v10), (5, .rp (c35 (gD v1.f3 v10))), (49, tB true), (57, tB v16)], []⟩ ?_ z0 trivial ?_
             · kernel_rfl
             cases hc11
             exact AOps.nil rfl
         subst hJ
         refine AOps.go [15] [] [] [1, 4, 5, 58] 0 ⟨[(1, .rp [.str v1.f0, .str v1.f1, .bool v1.f2, k1 v1.f3, k3 v1.f4, .str v1.f5]), (4, tI v10), (5, .rp (c35 (gD v1.f3 v10))), (58, tB v15)], []⟩ ?_ z0 trivial ?_
         · kernel_rfl
         cases hc7
         exact AOps.nil rfl
       · replace hc7 := of_false hc7 hb
         refine AOps.go [7, 8, 9, 10, 11, 12, 13, 14, 15] [] [] [1, 4, 5, 58] 0 ⟨[(1, .rp [.str v1.f0, .str v1.f1, .bool v1.f2, k1 v1.f3, k3 v1.f4, .str v1.f5]), (4, tI v10), (5, .rp (c35 (gD v1.f3 v10))), (58, tB false)], []⟩ ?_ z0 trivial ?_
         · kernel_rfl
         cases hc7
         exact AOps.nil rfl
     subst hJ
     refine AOps.go [16] [17, 18, 19, 20, 21, 22, 23, 24, 25, 26] [] [1, 4, 5, 59] 0 ⟨[(1, .rp [.str v1.f0, .str v1.f1, .bool v1.f2, k1 v1.f3, k3 v1.f4, .str v1.f5]), (4, tI v10), (5, .rp (c35 (gD v1.f3 v10))), (59, tB v14)], []⟩ ?_ z0 trivial ?_
     · kernel_rfl
     obtain ⟨v17, hc17, h⟩ := of_bind h
     refine AOps.cut [17, 18, 19, 20] [21, 22, 23, 24, 25, 26] (fun σ => σ = ⟨[(1, .rp [.str v1.f0, .str v1.f1, .bool v1.f2, k1 v1.f3, k3 v1.f4, .str v1.f5]), (4, tI v10), (5, .rp (c35 (gD v1.f3 v10))), (63, tB v17)], []⟩) ?_ fun σ' hJ => ?_
     · refine AOps.split (fun b => ⟨[(1, .rp [.str v1.f0, .str v1.f1, .bool v1.f2, k1 v1.f3, k3 v1.f4, .str v1.f5]), (4, tI v10), (5, .rp (c35 (gD v1.f3 v10))), (59, tB b)], []⟩) _ (fun hb => ?_) fun hb => ?_
       · replace hc17 := of_true hc17 hb
         refine AOps.go [17, 18, 19, 20] [] [] [1, 4, 5, 63] 0 ⟨[(1, .rp [.str v1.f0, .str v1.f1, .bool v1.f2, k1 v1.f3, k3 v1.f4, .str v1.f5]), (4, tI v10), (5, .rp (c35 (gD v1.f3 v10))), (63, tB (decide ((gD v1.f3 v10).f2 ≥ (0 : Int))))], []⟩ ?_ z0 trivial ?_
         · kernel_rfl
         cases hc17
         exact AOps.nil rfl
       · replace hc17 := of_false hc17 hb
         refine AOps.go [17, 18, 19, 20] [] [] [1, 4, 5, 63] 0 ⟨[(1, .rp [.str v1.f0, .str v1.f1, .bool v1.f2, k1 v1.f3, k3 v1.f4, .str v1.f5]), (4, tI v10), (5, .rp (c35 (gD v1.f3 v10))), (63, tB false)], []⟩ ?_ z0 trivial ?_
         · kernel_rfl
         cases hc17
         exact AOps.nil rfl
     subst hJ
     refine AOps.go [21] [22, 23, 24, 25, 26] [] [1, 4, 5, 64] 0 ⟨[(1, .rp [.str v1.f0, .str v1.f1, .bool v1.f2, k1 v1.f3, k3 v1.f4, .str v1.f5]), (4, tI v10), (5, .rp (c35 (gD v1.f3 v10))), (64, tB v17)], []⟩ ?_ z0 trivial ?_
     · kernel_rfl
     obtain ⟨v18, hc22, h⟩ := of_bind h
     refine AOps.cut [22, 23, 24, 25] [26] (fun σ => σ = ⟨[(1, .rp [.str v1.f0, .str v1.f1, .bool v1.f2, k1 v1.f3, k3 v1.f4, .str v1.f5]), (4, tI v10), (68, tB v18)], []⟩) ?_ fun σ' hJ => ?_
     · refine AOps.split (fun b => ⟨[(1, .rp [.str v1.f0, .str v1.f1, .bool v1.f2, k1 v1.f3, k3 v1.f4, .str v1.f5]), (4, tI v10), (5, .rp (c35 (gD v1.f3 v10))), (64, tB b)], []⟩) _ (fun hb => ?_) fun hb => ?_
       · replace hc22 := of_true hc22 hb
         refine AOps.go [22, 23, 24, 25] [] [] [1, 4, 68] 0 ⟨[(1, .rp [.str v1.f0, .str v1.f1, .bool v1.f2, k1 v1.f3, k3 v1.f4, .str v1.f5]), (4, tI v10), (68, tB (decide ((gD v1.f3 v10).f2 ≤ (100 : Int))))], []⟩ ?_ z0 trivial ?_
         · kernel_rfl
         cases hc22
         exact AOps.nil rfl
       · replace hc22 := of_false hc22 hb
         refine AOps.go [22, 23, 24, 25] [] [] [1, 4, 68] 0 ⟨[(1, .rp [.str v1.f0, .str v1.f1, .bool v1.f2, k1 v1.f3, k3 v1.f4, .str v1.f5]), (4, tI v10), (68, tB false)], []⟩ ?_ z0 trivial ?_
         · kernel_rfl
         cases hc22
         exact AOps.nil rfl
     subst hJ
     refine AOps.go [26] [] [] [1, 3, 4] 0 ⟨[(1, .rp [.str v1.f0, .str v1.f1, .bool v1.f2, k1 v1.f3, k3 v1.f4, .str v1.f5]), (3, tB v18), (4, tI v10)], []⟩ ?_ z0 trivial ?_
     · kernel_rfl
     refine AOps.nil ?_
     refine AWp.start [0, 1, 2] [] [] [1, 3, 4] 0 ⟨[(1, .rp [.str v1.f0, .str v1.f1, .bool v1.f2, k1 v1.f3, k3 v1.f4, .str v1.f5]), (3, tB v18), (4, tI (w64 (v10 + (1 : Int))))], []⟩ rfl ?_ z0 trivial ?_
     · kernel_rfl
     refine AOps.nil ?_
     cases h
     exact Or.inl ⟨_, rfl, rfl, rfl⟩
   · replace h := of_false h hb
     refine AWp.keepTo [1, 3] 0 ⟨[(1, .rp [.str v1.f0, .str v1.f1, .bool v1.f2, k1 v1.f3, k3 v1.f4, .str v1.f5]), (3, tB v9)], []⟩ ?_ z0 ?_
     · kernel_rfl
     refine AWp.exit ?_
     cases h
     exact Or.inr ⟨_, rfl, by simp, rfl, rfl⟩
 · intro e σ hp
   rcases y with v19 | v11
   · obtain ⟨rfl, rfl⟩ := hp
     cases h
     exact ⟨.inr rfl, rfl⟩
   · obtain ⟨rfl, rfl⟩ := hp
     refine AWp.seq ?_
     refine AWp.seq ?_
     refine AWp.start [0] [] [] [1, 3, 6] 0 ⟨[(1, .rp [.str v1.f0, .str v1.f1, .bool v1.f2, k1 v1.f3, k3 v1.f4, .str v1.f5]), (3, tB v11), (6, tI (0 : Int))], []⟩ rfl ?_ z0 trivial ?_
     · kernel_rfl
     refine AOps.nil ?_
     refine AWp.block ?_
     obtain ⟨y, hy, h⟩ := of_bind h
     refine AWp.mono (AWp.loop (S := Bool × Int) (Y := Out Bool Bool) (fun s => ⟨[(1, .rp [.str v1.f0, .str v1.f1, .bool v1.f2, k1 v1.f3, k3 v1.f4, .str v1.f5]), (3, tB s.1), (6, tI s.2)], []⟩) (fun s => f38_b2 v1 s.1 s.2) (fun y e σ => match y with | .ret r => e = .ret ∧ σ = ⟨[(2, tB r)], []⟩ | .go v => e = .exit 2 ∧ σ = ⟨[(3, tB v)], []⟩) ?_ hy) ?_
     · rintro ⟨v20, v21⟩ o h
       refine AWp.seq ?_
       refine AWp.seq ?_
       refine AWp.start [0, 1, 2, 3, 4] [] [] [1, 3, 6, 73] 0 ⟨[(1, .rp [.str v1.f0, .str v1.f1, .bool v1.f2, k1 v1.f3, k3 v1.f4, .str v1.f5]), (3, tB v20), (6, tI v21), (73, tB (decide (v21 < (v1.f4.length : Int))))], []⟩ rfl ?_ z0 trivial ?_
       · kernel_rfl
       refine AOps.nil ?_
       refine AWp.cond rfl (fun hb => ?_) fun hb => ?_
       · replace h := of_true h hb
         refine AWp.keepTo [1, 3, 6] 0 ⟨[(1, .rp [.str v1.f0, .str v1.f1, .bool v1.f2, k1 v1.f3, k3 v1.f4, .str v1.f5]), (3, tB v20), (6, tI v21)], []⟩ ?_ z0 ?_
         · kernel_rfl
         refine AWp.skip ?_
         refine AWp.seq ?_
         refine AWp.block ?_
         refine AWp.seq ?_
         obtain ⟨hg, h⟩ := of_guard h
         refine AWp.start [0, 1, 2, 3, 4, 5, 6] [] [(0 : Int) ≤ v21, v21 < (v1.f4.length : Int)] [1, 3, 6, 7] 1 ⟨[(1, .rp [.str v1.f0, .str v1.f1, .bool v1.f2, k1 v1.f3, k3 v1.f4, .str v1.f5]), (3, tB v20), (6, tI v21), (7, .pc 0 0)], [.cells 95 (c94 (gD v1.f4 v21))]⟩ rfl ?_ z0 ⟨hg.1, hg.2⟩ ?_
         · kernel_rfl
         refine AOps.nil ?_
         refine AWp.pin 0 rfl rfl ?_
         refine AWp.keepTo [1, 3, 6, 7] 0 ⟨[(1, .rp [.str v1.f0, .str v1.f1, .bool v1.f2, k1 v1.f3, k3 v1.f4, .str v1.f5]), (3, tB v20), (6, tI v21), (7, .rp (c94 (gD v1.f4 v21)))], []⟩ ?_ z0 ?_
         · kernel_rfl
         refine AWp.start [0, 1] [2, 3, 4, 5, 6, 7, 8, 9, 10, 11, 12, 13, 14, 15, 16] [] [1, 6, 7, 82] 0 ⟨[(1, .rp [.str v1.f0, .str v1.f1, .bool v1.f2, k1 v1.f3, k3 v1.f4, .str v1.f5]), (6, tI v21), (7, .rp (c94 (gD v1.f4 v21))), (82, tB v20)], []⟩ rfl ?_ z0 trivial ?_
         · kernel_rfl
         obtain ⟨v23, hc2, h⟩ := of_bind h
         refine AOps.cut [2, 3, 4, 5] [6, 7, 8, 9, 10, 11, 12, 13, 14, 15, 16] (fun σ => σ = ⟨[(1, .rp [.str v1.f0, .str v1.f1, .bool v1.f2, k1 v1.f3, k3 v1.f4, .str v1.f5]), (6, tI v21), (7, .rp (c94 (gD v1.f4 v21))), (86, tB v23)], []⟩) ?_ fun σ' hJ => ?_
         · refine AOps.split (fun b => ⟨[(1, .rp [.str v1.f0, .str v1.f1, .bool v1.f2, k1 v1.f3, k3 v1.f4, .str v1.f5]), (6, tI v21), (7, .rp (c94 (gD v1.f4 v21))), (82, tB b)], []⟩) _ (fun hb => ?_) fun hb => ?_
           · replace hc2 := of_true hc2 hb
             refine AOps.go [2, 3] [4, 5] [] [1, 6, 7, 82, 84] 0 ⟨[(1, .rp [.str v1.f0, .str v1.f1, .bool v1.f2, k1 v1.f3, k3 v1.f4, .str v1.f5]), (6, tI v21), (7, .rp (c94 (gD v1.f4 v21))), (82, tB true), (84, tS ((gD v1.f4 v21).f0))], []⟩ ?_ z0 trivial ?_
             · kernel_rfl
             obtain ⟨v24, hv24, hc2⟩ := of_bind hc2
             refine AOps.cons (AOne.callP (F := (FF 98 0)) _ rfl rfl rfl _ rfl rfl _ _ rfl Try.call71 [tS ((gD v1.f4 v21).f0)] rfl rfl (f71_ok ((gD v1.f4 v21).f0) hv24) rfl) ?_
             refine AOps.go [5] [] [] [1, 6, 7, 86] 0 ⟨[(1, .rp [.str v1.f0, .str v1.f1, .bool v1.f2, k1 v1.f3, k3 v1.f4, .str v1.f5]), (6, tI v21), (7, .rp (c94 (gD v1.f4 v21))), (86, tB v24)], []⟩ ?_ z0 trivial ?_
             · kernel_rfl
             cases hc2
             exact AOps.nil rfl
           · replace hc2 := of_false hc2 hb
             refine AOps.go [2, 3, 4, 5] [] [] [1, 6, 7, 86] 0 ⟨[(1, .rp [.str v1.f0, .str v1.f1, .bool v1.f2, k1 v1.f3, k3 v1.f4, .str v1.f5]), (6, tI v21), (7, .rp (c94 (gD v1.f4 v21))), (86, tB false)], []⟩ ?_ z0 trivial ?_
             · kernel_rfl
             cases hc2
             exact AOps.nil rfl
         subst hJ
         refine AOps.go [6] [7, 8, 9, 10, 11, 12, 13, 14, 15, 16] [] [1, 6, 7, 87] 0 ⟨[(1, .rp [.str v1.f0, .str v1.f1, .bool v1.f2, k1 v1.f3, k3 v1.f4, .str v1.f5]), (6, tI v21), (7, .rp (c94 (gD v1.f4 v21))), (87, tB v23)], []⟩ ?_ z0 trivial ?_
         · kernel_rfl
         obtain ⟨v25, hc7, h⟩ := of_bind h
         refine AOps.cut [7, 8, 9, 10, 11, 12, 13, 14, 15] [16] (fun σ => σ = ⟨[(1, .rp [.str v1.f0, .str v1.f1, .bool v1.f2, k1 v1.f3, k3 v1.f4, .str v1.f5]), (6, tI v21), (96, tB v25)], []⟩) ?_ fun σ' hJ => ?_
         · refine AOps.split (fun b => ⟨[(1, .rp [.str v1.f0, .str v1.f1, .bool v1.f2, k1 v1.f3, k3 v1.f4, .str v1.f5]), (6, tI v21), (7, .rp (c94 (gD v1.f4 v21))), (87, tB b)], []⟩) _ (fun hb => ?_) fun hb => ?_
           · replace hc7 := of_true hc7 hb
             refine AOps.go [7, 8, 9, 10] [11, 12, 13, 14, 15] [] [1, 6, 7, 87, 91] 0 ⟨[(1, .rp [.str v1.f0, .str v1.f1, .bool v1.f2, k1 v1.f3, k3 v1.f4, .str v1.f5]), (6, tI v21), (7, .rp (c94 (gD v1.f4 v21))), (87, tB true), (91, tB (((gD v1.f4 v21).f1) == ([] : List UInt8)))], []⟩ ?_ z0 trivial ?_
             · kernel_rfl
             obtain ⟨v26, hc11, hc7⟩ := of_bind hc7
             refine AOps.cut [11, 12, 13, 14] [15] (fun σ => σ = ⟨[(1, .rp [.str v1.f0, .str v1.f1, .bool v1.f2, k1 v1.f3, k3 v1.f4, .str v1.f5]), (6, tI v21), (87, tB true), (95, tB v26)], []⟩) ?_ fun σ' hJ => ?_
             · refine AOps.split (fun b => ⟨[(1, .rp [.str v1.f0, .str v1.f1, .bool v1.f2, k1 v1.f3, k3 v1.f4, .str v1.f5]), (6, tI v21), (7, .rp (c94 (gD v1.f4 v21))), (87, tB true), (91, tB b)], []⟩) _ (fun hb => ?_) fun hb => ?_
               · replace hc11 := of_true hc11 hb
                 refine AOps.go [11, 12, 13, 14] [] [] [1, 6, 87, 95] 0 ⟨[(1, .rp [.str v1.f0, .str v1.f1, .bool v1.f2, k1 v1.f3, k3 v1.f4, .str v1.f5]), (6, tI v21), (87, tB true), (95, tB true)], []⟩ ?_ z0 trivial ?_
                 · kernel_rfl
                 cases hc11
                 exact AOps.nil rfl
               · replace hc11 := of_false hc11 hb
                 refine AOps.go [11, 12] [13, 14] [] [1, 6, 87, 91, 93] 0 ⟨[(1, .rp [.str v1.f0, .str v1.f1, .bool v1.f2, k1 v1.f3, k3 v1.f4, .str v1.f5]), (6, tI v21), (87, tB true), (91, tB false), (93, tS ((gD v1.f4 v21).f1))], []⟩ ?_ z0 trivial ?_
                 · kernel_rfl
                 obtain ⟨v27, hv27, hc11⟩ := of_bind hc11
                 refine AOps.cons (AOne.callP (F := (FF 98 0)) _ rfl rfl rfl _ rfl rfl _ _ rfl Try.call71 [tS ((gD v1.f4 v21).f1)] rfl rfl (f71_ok ((gD v1.f4 v21).f1) hv27) rfl) ?_
                 refine AOps.go [14] [] [] [1, 6, 87, 95] 0 ⟨[(1, .rp [.str v1.f0, .str v1.f1, .bool v1.f2, k1 v1.f3, k3 v1.f4, .str v1.f5]), (6, tI v21), (87, tB true), (95, tB v27)], []⟩ ?_ z0 trivial ?_
                 · kernel_rfl
                 cases hc11
                 exact AOps.nil rfl
             subst hJ
             refine AOps.go [15] [] [] [1, 6, 96] 0 ⟨[(1, .rp [.str v1.f0, .str v1.f1, .bool v1.f2, k1 v1.f3, k3 v1.f4, .str v1.f5]), (6, tI v21), (96, tB v26)], []⟩ ?_ z0 trivial ?_
             · kernel_rfl
             cases hc7
             exact AOps.nil rfl
           · replace hc7 := of_false hc7 hb
             refine AOps.go [7, 8, 9, 10, 11, 12, 13, 14, 15] [] [] [1, 6, 96] 0 ⟨[(1, .rp [.str v1.f0, .str v1.f1, .bool v1.f2, k1 v1.f3, k3 v1.f4, .str v1.f5]), (6, tI v21), (96, tB false)], []⟩ ?_ z0 trivial ?_
             · kernel_rfl
             cases hc7
             exact AOps.nil rfl
         subst hJ
         refine AOps.go [16] [] [] [1, 3, 6] 0 ⟨[(1, .rp [.str v1.f0, .str v1.f1, .bool v1.f2, k1 v1.f3, k3 v1.f4, .str v1.f5]), (3, tB v25), (6, tI v21)], []⟩ ?_ z0 trivial ?_
         · kernel_rfl
         refine AOps.nil ?_
         refine AWp.start [0, 1, 2] [] [] [1, 3, 6] 0 ⟨[(1, .rp [.str v1.f0, .str v1.f1, .bool v1.f2, k1 v1.f3, k3 v1.f4, .str v1.f5]), (3, tB v25), (6, tI (w64 (v21 + (1 : Int))))], []⟩ rfl ?_ z0 trivial ?_
         · kernel_rfl
         refine AOps.nil ?_
         cases h
         exact Or.inl ⟨_, rfl, rfl, rfl⟩
       · replace h := of_false h hb
         refine AWp.keepTo [3] 0 ⟨[(3, tB v20)], []⟩ ?_ z0 ?_
         · kernel_rfl
         refine AWp.exit ?_
         cases h
         exact Or.inr ⟨_, rfl, by simp, rfl, rfl⟩
     · intro e σ hp
       rcases y with v28 | v22
       · obtain ⟨rfl, rfl⟩ := hp
         cases h
         exact ⟨.inr rfl, rfl⟩
       · obtain ⟨rfl, rfl⟩ := hp
         refine AWp.seq ?_
         refine AWp.start [0, 1] [] [] [2] 0 ⟨[(2, tB v22)], []⟩ rfl ?_ z0 trivial ?_
         · kernel_rfl
         refine AOps.nil ?_
         refine AWp.ret ?_
         cases h
         exact ⟨.inr rfl, rfl⟩

noncomputable def f49_b1 (v1 : List T62) (v2 : Int) (v3 : List UInt8) (v4 : Int) : Option (Int ⊕ Out Int Unit) :=
 (cond (decide (v4 < v2)) (some (decide (v4 < (v1.length : Int)))) (some false)).bind fun v5 => cond v5 (if (0 : Int) ≤ v4 ∧ v4 < (v1.length : Int) then cond (((v1.getD v4.toNat default).f0) == v3) (some (.inr (.ret v4))) (some (.inl (w64 (v4 + (1 : Int))))) else none) (some (.inr (.go ())))

noncomputable def f49 (v1 : List T62) (v2 : Int) (v3 : List UInt8) : Option Int :=
 (iter (fun s => f49_b1 v1 v2 v3 s) (0 : Int)).bind fun y => match y with | .ret v6 => some v6 | .go _ => some (-1 : Int)

theorem f49_ok (v1 : List T62) (v2 : Int) (v3 : List UInt8) {r : Int} (h : f49 v1 v2 v3 = some r) : ACall Try.prog 49 [.tv (fzL 6 c62 v1), .tv (.int .i64 v2), .tv (.str v3)] [] (.tv (.int .i64 r)) [] := by
 refine ACall.of1 (FF 27 0) Try.func49 rfl Try.ntmps49 Try.results49 (Nat.le_of_ble_eq_true rfl) rfl rfl ?_
 refine AWp.seq ?_
 refine AWp.start [0] [] [] [0, 1, 2] 0 ⟨[(0, q0 v1), (1, tI v2), (2, tS v3)], []⟩ rfl ?_ z0 trivial ?_
 · kernel_rfl
 refine AOps.nil ?_
 refine AWp.seq ?_
 refine AWp.seq ?_
 refine AWp.start [0] [] [] [0, 1, 2, 7] 0 ⟨[(0, q0 v1), (1, tI v2), (2, tS v3), (7, tI (0 : Int))], []⟩ rfl ?_ z0 trivial ?_
 · kernel_rfl
 refine AOps.nil ?_
 refine AWp.block ?_
 obtain ⟨y, hy, h⟩ := of_bind h
 refine AWp.mono (AWp.loop (S := Int) (Y := Out Int Unit) (fun s => ⟨[(0, q0 v1), (1, tI v2), (2, tS v3), (7, tI s)], []⟩) (fun s => f49_b1 v1 v2 v3 s) (fun y e σ => match y with | .ret r => e = .ret ∧ σ = ⟨[(6, tI r)], []⟩ | .go v => e = .exit 0 ∧ σ = ⟨[], []⟩) ?_ hy) ?_
 · rintro v4 o h
   refine AWp.seq ?_
   refine AWp.seq ?_
   refine AWp.start [0, 1, 2, 3] [4, 5, 6, 7, 8] [] [0, 1, 2, 7, 11] 0 ⟨[(0, q0 v1), (1, tI v2), (2, tS v3), (7, tI v4), (11, tB (decide (v4 < v2)))], []⟩ rfl ?_ z0 trivial ?_
   · kernel_rfl
   obtain ⟨v5, hc4, h⟩ := of_bind h
   refine AOps.cut [4, 5, 6, 7, 8] [] (fun σ => σ = ⟨[(0, q0 v1), (1, tI v2), (2, tS v3), (7, tI v4), (16, tB v5)], []⟩) ?_ fun σ' hJ => ?_
   · refine AOps.split (fun b => ⟨[(0, q0 v1), (1, tI v2), (2, tS v3), (7, tI v4), (11, tB b)], []⟩) _ (fun hb => ?_) fun hb => ?_
     · replace hc4 := of_true hc4 hb
       refine AOps.go [4, 5, 6, 7, 8] [] [] [0, 1, 2, 7, 16] 0 ⟨[(0, q0 v1), (1, tI v2), (2, tS v3), (7, tI v4), (16, tB (decide (v4 < (v1.length : Int))))], []⟩ ?_ z0 trivial ?_
       · kernel_rfl
       cases hc4
       exact AOps.nil rfl
     · replace hc4 := of_false hc4 hb
       refine AOps.go [4, 5, 6, 7, 8] [] [] [0, 1, 2, 7, 16] 0 ⟨[(0, q0 v1), (1, tI v2), (2, tS v3), (7, tI v4), (16, tB false)], []⟩ ?_ z0 trivial ?_
       · kernel_rfl
       cases hc4
       exact AOps.nil rfl
   subst hJ
   refine AOps.nil ?_
   refine AWp.cond rfl (fun hb => ?_) fun hb => ?_
   · replace h := of_true h hb
     refine AWp.keepTo [0, 1, 2, 7] 0 ⟨[(0, q0 v1), (1, tI v2), (2, tS v3), (7, tI v4)], []⟩ ?_ z0 ?_
     · kernel_rfl
     refine AWp.skip ?_
     refine AWp.seq ?_
     refine AWp.block ?_
     refine AWp.seq ?_
     obtain ⟨hg, h⟩ := of_guard h
     refine AWp.start [0, 1, 2, 3, 4, 5, 6] [] [(0 : Int) ≤ v4, v4 < (v1.length : Int)] [0, 1, 2, 7, 25] 0 ⟨[(0, q0 v1), (1, tI v2), (2, tS v3), (7, tI v4), (25, tB (((gD v1 v4).f0) == v3))], []⟩ rfl ?_ z0 ⟨hg.1, hg.2⟩ ?_
     · kernel_rfl
     refine AOps.nil ?_
     refine AWp.cond rfl (fun hb => ?_) fun hb => ?_
     · replace h := of_true h hb
       refine AWp.keepTo [7] 0 ⟨[(7, tI v4)], []⟩ ?_ z0 ?_
       · kernel_rfl
       refine AWp.seq ?_
       refine AWp.start [0, 1] [] [] [6] 0 ⟨[(6, tI v4)], []⟩ rfl ?_ z0 trivial ?_
       · kernel_rfl
       refine AOps.nil ?_
       refine AWp.ret ?_
       cases h
       exact Or.inr ⟨_, rfl, by simp, rfl, rfl⟩
     · replace h := of_false h hb
       refine AWp.keepTo [0, 1, 2, 7] 0 ⟨[(0, q0 v1), (1, tI v2), (2, tS v3), (7, tI v4)], []⟩ ?_ z0 ?_
       · kernel_rfl
       refine AWp.skip ?_
       refine AWp.start [0, 1, 2] [] [] [0, 1, 2, 7] 0 ⟨[(0, q0 v1), (1, tI v2), (2, tS v3), (7, tI (w64 (v4 + (1 : Int))))], []⟩ rfl ?_ z0 trivial ?_
       · kernel_rfl
       refine AOps.nil ?_
       cases h
       exact Or.inl ⟨_, rfl, rfl, rfl⟩
   · replace h := of_false h hb
     refine AWp.keepTo [] 0 ⟨[], []⟩ ?_ z0 ?_
     · kernel_rfl
     refine AWp.exit ?_
     cases h
     exact Or.inr ⟨_, rfl, by simp, rfl, rfl⟩
 · intro e σ hp
   rcases y with v6 | _
   · obtain ⟨rfl, rfl⟩ := hp
     cases h
     exact ⟨.inr rfl, rfl⟩
   · obtain ⟨rfl, rfl⟩ := hp
     refine AWp.seq ?_
     refine AWp.start [0] [] [] [6] 0 ⟨[(6, tI (-1 : Int))], []⟩ rfl ?_ z0 trivial ?_
     · kernel_rfl
     refine AOps.nil ?_
     refine AWp.ret ?_
     cases h
     exact ⟨.inr rfl, rfl⟩

end Go.Sx.der
