/- Printed by program (wip/gen): plain functions and their walks; no condition. -/
import Derived.Test.YtdmpmbcnfoionaaGx1
namespace Go.Sx.unit
open Go Go.Sx Go.Proofs

noncomputable def f4_b1 (v2 : List (List Int)) : Option (Unit ⊕ Out Bool Unit) :=
  cond (decide ((0 : Int) < (v2.length : Int))) none (some (.inr (.go ())))

noncomputable def f4_b2 (v2 : List (List Int)) (v15 : List (List Int)) (v16 : Int) (v17 : List UInt8) (v18 : Int) (v19 : List Int) (v20 : Int) (v21 : Bool) : Option (((List (List Int)) × Int × (List UInt8) × Int × (List Int) × Int × Bool) ⊕ Out Bool ((List (List Int)) × (List UInt8) × Int × (List Int) × Int × Bool)) :=
  cond (decide (v16 < (v2.length : Int))) (if (0 : Int) ≤ v16 ∧ v16 < (v2.length : Int) then (f17o (v2.getD v16.toNat default) (T64.mk v17 v18 v19 v20 v21)).bind fun v28 => cond (v28.1 != (0 : Int)) ((f9 ).bind fun v29 => some (.inr (.ret v29))) (if (0 : Int) ≤ v16 ∧ v16 < (v2.length : Int) then if (v15.length + [v2.getD v16.toNat default].length) * 24 ≤ 140737488355328 then some (.inl (v15 ++ [v2.getD v16.toNat default], w64 (v16 + (1 : Int)), v28.2.f0, v28.2.f1, v28.2.f2, v28.2.f3, v28.2.f4)) else none else none) else none) (some (.inr (.go (v15, v17, v18, v19, v20, v21))))

noncomputable def f4_b3 (v22 : List (List Int)) (v37 : List UInt8) (v38 : Int) (v39 : List Int) (v40 : Int) (v41 : Bool) : Option (Unit ⊕ Out Bool Unit) :=
  cond (decide ((0 : Int) < (v22.length : Int))) ((f22o (T64.mk v37 v38 v39 v40 v41)).bind fun v47 => none) (some (.inr (.go ())))

noncomputable def f4_b4 (v22 : List (List Int)) (v58 : Int) (v59 : List UInt8) (v60 : Int) (v61 : List Int) (v62 : Int) (v63 : Bool) : Option ((Int × (List UInt8) × Int × (List Int) × Int × Bool) ⊕ Out Bool ((List UInt8) × Int × (List Int) × Int × Bool)) :=
  cond (decide (v58 ≥ (0 : Int))) ((f23o (T64.mk v59 v60 v61 v62 v63)).bind fun v69 => cond (v69.1 != (0 : Int)) (some (.inr (.ret false))) ((f22o v69.2).bind fun v70 => (cond (v70.2.1 != (0 : Int)) (some (true, v70.2.2.f0, v70.2.2.f1, v70.2.2.f2, v70.2.2.f3, v70.2.2.f4)) (if (0 : Int) ≤ v58 ∧ v58 < (v22.length : Int) then cond (!((v70.1.map (fun n => UInt8.ofNat n.toNat)) == ((v22.getD v58.toNat default).map (fun n => UInt8.ofNat n.toNat)))) (some (true, v70.2.2.f0, v70.2.2.f1, v70.2.2.f2, v70.2.2.f3, v70.2.2.f4)) ((f23o v70.2.2).bind fun v77 => some ((v77.1 != (0 : Int)), v77.2.f0, v77.2.f1, v77.2.f2, v77.2.f3, v77.2.f4)) else none)).bind fun (v71, v72, v73, v74, v75, v76) => cond v71 (some (.inr (.ret false))) (some (.inl (w64 (v58 - (1 : Int)), v72, v73, v74, v75, v76))))) (some (.inr (.go (v59, v60, v61, v62, v63))))

noncomputable def f4_b5 (v22 : List (List Int)) (v82 : Int) (v83 : List UInt8) (v84 : Int) (v85 : List Int) (v86 : Int) (v87 : Bool) (v88 : List UInt8) (v89 : Int) (v90 : List Int) (v91 : Int) (v92 : Bool) : Option ((Int × (List UInt8) × Int × (List Int) × Int × Bool × (List UInt8) × Int × (List Int) × Int × Bool) ⊕ Out Bool ((List UInt8) × Int × (List Int) × Int × Bool)) :=
  cond (decide (v82 < (v22.length : Int))) ((f22o (T64.mk v83 v84 v85 v86 v87)).bind fun v98 => (f22o (T64.mk v88 v89 v90 v91 v92)).bind fun v99 => (cond (v98.2.1 != (0 : Int)) (some true) (cond (v99.2.1 != (0 : Int)) (some true) (if (0 : Int) ≤ v82 ∧ v82 < (v22.length : Int) then cond (!((v98.1.map (fun n => UInt8.ofNat n.toNat)) == ((v22.getD v82.toNat default).map (fun n => UInt8.ofNat n.toNat)))) (some true) (some (!((v99.1.map (fun n => UInt8.ofNat n.toNat)) == (v98.1.map (fun n => UInt8.ofNat n.toNat))))) else none))).bind fun v100 => cond v100 (some (.inr (.ret false))) (some (.inl (w64 (v82 + (1 : Int)), v98.2.2.f0, v98.2.2.f1, v98.2.2.f2, v98.2.2.f3, v98.2.2.f4, v99.2.2.f0, v99.2.2.f1, v99.2.2.f2, v99.2.2.f3, v99.2.2.f4)))) (some (.inr (.go (v83, v84, v85, v86, v87))))

noncomputable def f4_b6 (v22 : List (List Int)) (v111 : Int) (v112 : List UInt8) (v113 : Int) (v114 : List Int) (v115 : Int) (v116 : Bool) : Option ((Int × (List UInt8) × Int × (List Int) × Int × Bool) ⊕ Out Bool ((List UInt8) × Int × (List Int) × Int × Bool)) :=
  cond (decide (v111 ≥ (0 : Int))) ((f23o (T64.mk v112 v113 v114 v115 v116)).bind fun v122 => cond (v122.1 != (0 : Int)) (some (.inr (.ret false))) ((f22o v122.2).bind fun v123 => (cond (v123.2.1 != (0 : Int)) (some (true, v123.2.2.f0, v123.2.2.f1, v123.2.2.f2, v123.2.2.f3, v123.2.2.f4)) (if (0 : Int) ≤ v111 ∧ v111 < (v22.length : Int) then cond (!((v123.1.map (fun n => UInt8.ofNat n.toNat)) == ((v22.getD v111.toNat default).map (fun n => UInt8.ofNat n.toNat)))) (some (true, v123.2.2.f0, v123.2.2.f1, v123.2.2.f2, v123.2.2.f3, v123.2.2.f4)) ((f23o v123.2.2).bind fun v130 => some ((v130.1 != (0 : Int)), v130.2.f0, v130.2.f1, v130.2.f2, v130.2.f3, v130.2.f4)) else none)).bind fun (v124, v125, v126, v127, v128, v129) => cond v124 (some (.inr (.ret false))) (some (.inl (w64 (v111 - (1 : Int)), v125, v126, v127, v128, v129))))) (some (.inr (.go (v112, v113, v114, v115, v116))))

noncomputable def f4 (v1 : T32) (v2 : List (List Int)) : Option Bool :=
  (f15 v1 ([] : List T46)).bind fun v3 => (cond v3 (some true) (some (decide ((v2.length : Int) > (30 : Int))))).bind fun v4 => (cond v4 (some true) ((cond (!(v1.f0 == ([108, 105, 110, 101, 115] : List UInt8))) (some (!(v1.f0 == ([114, 101, 99, 111, 114, 100, 115] : List UInt8)))) (some false)).bind fun v6 => some v6)).bind fun v5 => cond v5 ((f9 ).bind fun v7 => some v7) ((f16 v1.f0 v1.f1 v1.f2).bind fun v8 => match v8 with | (none, v10) => cond (v10 != (0 : Int)) ((f9 ).bind fun v11 => some v11) ((iter (fun _ => f4_b1 v2) ()).bind fun y => match y with | .ret v12 => some v12 | .go _ => cond ((0 : Int) == (0 : Int)) ((f9 ).bind fun v13 => some v13) none) | (some v9, v10) => cond (v10 != (0 : Int)) ((f9 ).bind fun v14 => some v14) ((iter (fun s => f4_b2 v2 s.1 s.2.1 s.2.2.1 s.2.2.2.1 s.2.2.2.2.1 s.2.2.2.2.2.1 s.2.2.2.2.2.2) ([], (0 : Int), v9.f0, v9.f1, v9.f2, v9.f3, v9.f4)).bind fun y => match y with | .ret v30 => some v30 | .go (v22, v23, v24, v25, v26, v27) => cond ((v22.length : Int) == (0 : Int)) ((f9 ).bind fun v31 => some v31) ((f18 (T64.mk v23 v24 v25 v26 v27)).bind fun v32 => (cond (v32.1 != (v22.length : Int)) (some true) (some (v32.2 != (0 : Int)))).bind fun v33 => (cond v33 (some true) ((f19 (T64.mk v23 v24 v25 v26 v27)).bind fun v35 => some (v35 != v32.1))).bind fun v34 => (cond v34 (some (true, v23, v24, v25, v26, v27)) ((f20o (T64.mk v23 v24 v25 v26 v27)).bind fun v42 => some ((v42.1 != (0 : Int)), v42.2.f0, v42.2.f1, v42.2.f2, v42.2.f3, v42.2.f4))).bind fun (v36, v37, v38, v39, v40, v41) => cond v36 (some false) ((f21o (T64.mk v37 v38 v39 v40 v41)).bind fun v43 => (f16 v1.f0 (0 : Int) v43).bind fun v44 => match v44 with | (none, v46) => cond (v46 != (0 : Int)) (some false) ((iter (fun _ => f4_b3 v22 v37 v38 v39 v40 v41) ()).bind fun y => match y with | .ret v48 => some v48 | .go _ => (f22o (T64.mk v37 v38 v39 v40 v41)).bind fun v49 => cond (v49.2.1 != (6 : Int)) (some false) ((f22o v49.2.2).bind fun v50 => (cond (v50.2.1 != (110 : Int)) (some (true, v50.2.2.f0, v50.2.2.f1, v50.2.2.f2, v50.2.2.f3, v50.2.2.f4)) ((f23o v50.2.2).bind fun v57 => some ((v57.1 != (0 : Int)), v57.2.f0, v57.2.f1, v57.2.f2, v57.2.f3, v57.2.f4))).bind fun (v51, v52, v53, v54, v55, v56) => cond v51 (some false) ((iter (fun s => f4_b4 v22 s.1 s.2.1 s.2.2.1 s.2.2.2.1 s.2.2.2.2.1 s.2.2.2.2.2) (w64 ((v22.length : Int) - (1 : Int)), v52, v53, v54, v55, v56)).bind fun y => match y with | .ret v78 => some v78 | .go (v64, v65, v66, v67, v68) => (f19 (T64.mk v64 v65 v66 v67 v68)).bind fun v79 => (cond (v79 == (0 : Int)) ((f9 ).bind fun v81 => some v81) (some false)).bind fun v80 => some v80))) | (some v45, v46) => cond (v46 != (0 : Int)) (some false) ((iter (fun s => f4_b5 v22 s.1 s.2.1 s.2.2.1 s.2.2.2.1 s.2.2.2.2.1 s.2.2.2.2.2.1 s.2.2.2.2.2.2.1 s.2.2.2.2.2.2.2.1 s.2.2.2.2.2.2.2.2.1 s.2.2.2.2.2.2.2.2.2.1 s.2.2.2.2.2.2.2.2.2.2) ((0 : Int), v37, v38, v39, v40, v41, v45.f0, v45.f1, v45.f2, v45.f3, v45.f4)).bind fun y => match y with | .ret v101 => some v101 | .go (v93, v94, v95, v96, v97) => (f22o (T64.mk v93 v94 v95 v96 v97)).bind fun v102 => cond (v102.2.1 != (6 : Int)) (some false) ((f22o v102.2.2).bind fun v103 => (cond (v103.2.1 != (110 : Int)) (some (true, v103.2.2.f0, v103.2.2.f1, v103.2.2.f2, v103.2.2.f3, v103.2.2.f4)) ((f23o v103.2.2).bind fun v110 => some ((v110.1 != (0 : Int)), v110.2.f0, v110.2.f1, v110.2.f2, v110.2.f3, v110.2.f4))).bind fun (v104, v105, v106, v107, v108, v109) => cond v104 (some false) ((iter (fun s => f4_b6 v22 s.1 s.2.1 s.2.2.1 s.2.2.2.1 s.2.2.2.2.1 s.2.2.2.2.2) (w64 ((v22.length : Int) - (1 : Int)), v105, v106, v107, v108, v109)).bind fun y => match y with | .ret v131 => some v131 | .go (v117, v118, v119, v120, v121) => (f19 (T64.mk v117 v118 v119 v120 v121)).bind fun v132 => (cond (v132 == (0 : Int)) ((f9 ).bind fun v134 => some v134) (some false)).bind fun v133 => some v133)))))))

theorem f4_ok (v1 : T32) (v2 : List (List Int)) {r : Bool} (h : f4 v1 v2 = some r) : ACall Try.prog 4 [.agg [.str v1.f0, .int .i64 v1.f1, fzL 1 (cInt .u8) v1.f2], .tv (fzL 1 (cSl 1 (cInt .u8)) v2)] [] (.tv (.bool r)) [] := by
  refine ACall.of1 (FF 211 0) Try.func4 rfl Try.ntmps4 Try.results4 (Nat.le_of_ble_eq_true rfl) rfl rfl ?_
  refine AWp.seq ?_
  refine AWp.start [0, 1] [] [] [1, 2] 1 ⟨[(1, .tv (fzL 1 (cSl 1 (cInt .u8)) v2)), (2, .pc 0 0)], [.cells 33 [.str v1.f0, .int .i64 v1.f1, fzL 1 (cInt .u8) v1.f2]]⟩ rfl ?_ (Nat.zero_le _) trivial ?_
  · kernel_rfl
  refine AOps.nil ?_
  refine AWp.seq ?_
  refine AWp.seq ?_
  refine AWp.pin 0 rfl rfl ?_
  refine AWp.keepTo [1, 2] 0 ⟨[(1, .tv (fzL 1 (cSl 1 (cInt .u8)) v2)), (2, .rp [.str v1.f0, .int .i64 v1.f1, fzL 1 (cInt .u8) v1.f2])], []⟩ ?_ (Nat.zero_le _) ?_
  · kernel_rfl
  refine AWp.start [0] [1, 2, 3, 4, 5, 6, 7, 8, 9, 10, 11, 12, 13, 14, 15, 16] [] [1, 2, 25] 0 ⟨[(1, .tv (fzL 1 (cSl 1 (cInt .u8)) v2)), (2, .rp [.str v1.f0, .int .i64 v1.f1, fzL 1 (cInt .u8) v1.f2]), (25, .agg [.str v1.f0, .int .i64 v1.f1, fzL 1 (cInt .u8) v1.f2])], []⟩ rfl ?_ (Nat.zero_le _) trivial ?_
  · kernel_rfl
  obtain ⟨v3, hv3, h⟩ := of_bind h
  refine AOps.cons (AOne.callP (F := (FF 211 0)) _ rfl rfl rfl _ rfl rfl _ _ rfl Try.call15 [.agg [.str v1.f0, .int .i64 v1.f1, fzL 1 (cInt .u8) v1.f2], .tv (.sc (.slice none 0 0))] rfl rfl (ACall.nils (.keep rfl (.nil .done)) (f15_ok v1 ([] : List T46) hv3)) rfl) ?_
  refine AOps.go [2] [3, 4, 5, 6, 7, 8, 9, 10, 11, 12, 13, 14, 15, 16] [] [1, 2, 27] 0 ⟨[(1, .tv (fzL 1 (cSl 1 (cInt .u8)) v2)), (2, .rp [.str v1.f0, .int .i64 v1.f1, fzL 1 (cInt .u8) v1.f2]), (27, .tv (.bool v3))], []⟩ ?_ (Nat.zero_le _) trivial ?_
  · kernel_rfl
  obtain ⟨v4, hc3, h⟩ := of_bind h
  refine AOps.cut [3, 4, 5, 6] [7, 8, 9, 10, 11, 12, 13, 14, 15, 16] (fun σ => σ = ⟨[(1, .tv (fzL 1 (cSl 1 (cInt .u8)) v2)), (2, .rp [.str v1.f0, .int .i64 v1.f1, fzL 1 (cInt .u8) v1.f2]), (31, .tv (.bool v4))], []⟩) ?_ fun σ' hJ => ?_
  · refine AOps.split (fun b => ⟨[(1, .tv (fzL 1 (cSl 1 (cInt .u8)) v2)), (2, .rp [.str v1.f0, .int .i64 v1.f1, fzL 1 (cInt .u8) v1.f2]), (27, .tv (.bool b))], []⟩) _ (fun hb => ?_) fun hb => ?_
    · replace hc3 := of_true hc3 hb
      refine AOps.go [3, 4, 5, 6] [] [] [1, 2, 31] 0 ⟨[(1, .tv (fzL 1 (cSl 1 (cInt .u8)) v2)), (2, .rp [.str v1.f0, .int .i64 v1.f1, fzL 1 (cInt .u8) v1.f2]), (31, .tv (.bool true))], []⟩ ?_ (Nat.zero_le _) trivial ?_
      · kernel_rfl
      cases hc3
      exact AOps.nil rfl
    · replace hc3 := of_false hc3 hb
      refine AOps.go [3, 4, 5, 6] [] [] [1, 2, 31] 0 ⟨[(1, .tv (fzL 1 (cSl 1 (cInt .u8)) v2)), (2, .rp [.str v1.f0, .int .i64 v1.f1, fzL 1 (cInt .u8) v1.f2]), (31, .tv (.bool (decide ((v2.length : Int) > (30 : Int)))))], []⟩ ?_ (Nat.zero_le _) trivial ?_
      · kernel_rfl
      cases hc3
      exact AOps.nil rfl
  subst hJ
  refine AOps.go [7] [8, 9, 10, 11, 12, 13, 14, 15, 16] [] [1, 2, 32] 0 ⟨[(1, .tv (fzL 1 (cSl 1 (cInt .u8)) v2)), (2, .rp [.str v1.f0, .int .i64 v1.f1, fzL 1 (cInt .u8) v1.f2]), (32, .tv (.bool v4))], []⟩ ?_ (Nat.zero_le _) trivial ?_
  · kernel_rfl
  obtain ⟨v5, hc8, h⟩ := of_bind h
  refine AOps.cut [8, 9, 10, 11, 12, 13, 14, 15, 16] [] (fun σ => σ = ⟨[(1, .tv (fzL 1 (cSl 1 (cInt .u8)) v2)), (2, .rp [.str v1.f0, .int .i64 v1.f1, fzL 1 (cInt .u8) v1.f2]), (41, .tv (.bool v5))], []⟩) ?_ fun σ' hJ => ?_
  · refine AOps.split (fun b => ⟨[(1, .tv (fzL 1 (cSl 1 (cInt .u8)) v2)), (2, .rp [.str v1.f0, .int .i64 v1.f1, fzL 1 (cInt .u8) v1.f2]), (32, .tv (.bool b))], []⟩) _ (fun hb => ?_) fun hb => ?_
    · replace hc8 := of_true hc8 hb
      refine AOps.go [8, 9, 10, 11, 12, 13, 14, 15, 16] [] [] [1, 2, 41] 0 ⟨[(1, .tv (fzL 1 (cSl 1 (cInt .u8)) v2)), (2, .rp [.str v1.f0, .int .i64 v1.f1, fzL 1 (cInt .u8) v1.f2]), (41, .tv (.bool true))], []⟩ ?_ (Nat.zero_le _) trivial ?_
      · kernel_rfl
      cases hc8
      exact AOps.nil rfl
    · replace hc8 := of_false hc8 hb
      refine AOps.go [8, 9, 10, 11] [12, 13, 14, 15, 16] [] [1, 2, 32, 36] 0 ⟨[(1, .tv (fzL 1 (cSl 1 (cInt .u8)) v2)), (2, .rp [.str v1.f0, .int .i64 v1.f1, fzL 1 (cInt .u8) v1.f2]), (32, .tv (.bool false)), (36, .tv (.bool (!(v1.f0 == ([108, 105, 110, 101, 115] : List UInt8)))))], []⟩ ?_ (Nat.zero_le _) trivial ?_
      · kernel_rfl
      obtain ⟨v6, hc12, hc8⟩ := of_bind hc8
      refine AOps.cut [12, 13, 14, 15] [16] (fun σ => σ = ⟨[(1, .tv (fzL 1 (cSl 1 (cInt .u8)) v2)), (2, .rp [.str v1.f0, .int .i64 v1.f1, fzL 1 (cInt .u8) v1.f2]), (32, .tv (.bool false)), (40, .tv (.bool v6))], []⟩) ?_ fun σ' hJ => ?_
      · refine AOps.split (fun b => ⟨[(1, .tv (fzL 1 (cSl 1 (cInt .u8)) v2)), (2, .rp [.str v1.f0, .int .i64 v1.f1, fzL 1 (cInt .u8) v1.f2]), (32, .tv (.bool false)), (36, .tv (.bool b))], []⟩) _ (fun hb => ?_) fun hb => ?_
        · replace hc12 := of_true hc12 hb
          refine AOps.go [12, 13, 14, 15] [] [] [1, 2, 32, 40] 0 ⟨[(1, .tv (fzL 1 (cSl 1 (cInt .u8)) v2)), (2, .rp [.str v1.f0, .int .i64 v1.f1, fzL 1 (cInt .u8) v1.f2]), (32, .tv (.bool false)), (40, .tv (.bool (!(v1.f0 == ([114, 101, 99, 111, 114, 100, 115] : List UInt8)))))], []⟩ ?_ (Nat.zero_le _) trivial ?_
          · kernel_rfl
          cases hc12
          exact AOps.nil rfl
        · replace hc12 := of_false hc12 hb
          refine AOps.go [12, 13, 14, 15] [] [] [1, 2, 32, 40] 0 ⟨[(1, .tv (fzL 1 (cSl 1 (cInt .u8)) v2)), (2, .rp [.str v1.f0, .int .i64 v1.f1, fzL 1 (cInt .u8) v1.f2]), (32, .tv (.bool false)), (40, .tv (.bool false))], []⟩ ?_ (Nat.zero_le _) trivial ?_
          · kernel_rfl
          cases hc12
          exact AOps.nil rfl
      subst hJ
      refine AOps.go [16] [] [] [1, 2, 41] 0 ⟨[(1, .tv (fzL 1 (cSl 1 (cInt .u8)) v2)), (2, .rp [.str v1.f0, .int .i64 v1.f1, fzL 1 (cInt .u8) v1.f2]), (41, .tv (.bool v6))], []⟩ ?_ (Nat.zero_le _) trivial ?_
      · kernel_rfl
      cases hc8
      exact AOps.nil rfl
  subst hJ
  refine AOps.nil ?_
  refine AWp.cond rfl (fun hb => ?_) fun hb => ?_
  · replace h := of_true h hb
    refine AWp.keepTo [] 0 ⟨[], []⟩ ?_ (Nat.zero_le _) ?_
    · kernel_rfl
    refine AWp.seq ?_
    refine AWp.start [] [0, 1] [] [] 0 ⟨[], []⟩ rfl ?_ (Nat.zero_le _) trivial ?_
    · kernel_rfl
    obtain ⟨v7, hv7, h⟩ := of_bind h
    refine AOps.cons (AOne.callP (F := (FF 211 0)) _ rfl rfl rfl _ rfl rfl _ _ rfl Try.call9 [] rfl rfl (f9_ok  hv7) rfl) ?_
    refine AOps.go [1] [] [] [4] 0 ⟨[(4, .tv (.bool v7))], []⟩ ?_ (Nat.zero_le _) trivial ?_
    · kernel_rfl
    refine AOps.nil ?_
    refine AWp.ret ?_
    cases h
    exact ⟨.inr rfl, rfl⟩
  · replace h := of_false h hb
    refine AWp.keepTo [1, 2] 0 ⟨[(1, .tv (fzL 1 (cSl 1 (cInt .u8)) v2)), (2, .rp [.str v1.f0, .int .i64 v1.f1, fzL 1 (cInt .u8) v1.f2])], []⟩ ?_ (Nat.zero_le _) ?_
    · kernel_rfl
    refine AWp.skip ?_
    refine AWp.seq ?_
    refine AWp.start [0, 1, 2, 3, 4, 5] [6, 7, 8, 9, 10, 11] [] [1, 2, 45, 47, 49] 0 ⟨[(1, .tv (fzL 1 (cSl 1 (cInt .u8)) v2)), (2, .rp [.str v1.f0, .int .i64 v1.f1, fzL 1 (cInt .u8) v1.f2]), (45, .tv (.str v1.f0)), (47, .tv (.int .i64 v1.f1)), (49, .tv (fzL 1 (cInt .u8) v1.f2))], []⟩ rfl ?_ (Nat.zero_le _) trivial ?_
    · kernel_rfl
    obtain ⟨v8, hv8, h⟩ := of_bind h
    rcases v8 with ⟨(_ | v9), v10⟩
    · replace h : (cond (v10 != (0 : Int)) ((f9 ).bind fun v11 => some v11) ((iter (fun _ => f4_b1 v2) ()).bind fun y => match y with | .ret v12 => some v12 | .go _ => cond ((0 : Int) == (0 : Int)) ((f9 ).bind fun v13 => some v13) none)) = some r := h
      refine AOps.cons (AOne.callO (F := (FF 211 0)) _ rfl rfl rfl 50 rfl rfl 16 [] rfl Try.call16 [] (by decide) [.tv (.str v1.f0), .tv (.int .i64 v1.f1), .tv (fzL 1 (cInt .u8) v1.f2)] (by kernel_rfl) [] (by kernel_rfl) (f16_ok v1.f0 v1.f1 v1.f2 hv8) (by kernel_rfl) (by kernel_rfl) _ rfl) ?_
      refine AOps.go [7, 8, 9, 10, 11] [] [] [1, 2, 5, 6] 0 ⟨[(1, .tv (fzL 1 (cSl 1 (cInt .u8)) v2)), (2, .rp [.str v1.f0, .int .i64 v1.f1, fzL 1 (cInt .u8) v1.f2]), (5, .tv (.sc (.pointer none))), (6, .tv (.int .i64 v10))], []⟩ ?_ (Nat.zero_le _) trivial ?_
      · kernel_rfl
      refine AOps.nil ?_
      refine AWp.seq ?_
      refine AWp.seq ?_
      refine AWp.start [0, 1] [] [] [1, 2, 5, 54] 0 ⟨[(1, .tv (fzL 1 (cSl 1 (cInt .u8)) v2)), (2, .rp [.str v1.f0, .int .i64 v1.f1, fzL 1 (cInt .u8) v1.f2]), (5, .tv (.sc (.pointer none))), (54, .tv (.bool (v10 != (0 : Int))))], []⟩ rfl ?_ (Nat.zero_le _) trivial ?_
      · kernel_rfl
      refine AOps.nil ?_
      refine AWp.cond rfl (fun hb => ?_) fun hb => ?_
      · replace h := of_true h hb
        refine AWp.keepTo [] 0 ⟨[], []⟩ ?_ (Nat.zero_le _) ?_
        · kernel_rfl
        refine AWp.seq ?_
        refine AWp.start [] [0, 1] [] [] 0 ⟨[], []⟩ rfl ?_ (Nat.zero_le _) trivial ?_
        · kernel_rfl
        obtain ⟨v11, hv11, h⟩ := of_bind h
        refine AOps.cons (AOne.callP (F := (FF 211 0)) _ rfl rfl rfl _ rfl rfl _ _ rfl Try.call9 [] rfl rfl (f9_ok  hv11) rfl) ?_
        refine AOps.go [1] [] [] [4] 0 ⟨[(4, .tv (.bool v11))], []⟩ ?_ (Nat.zero_le _) trivial ?_
        · kernel_rfl
        refine AOps.nil ?_
        refine AWp.ret ?_
        cases h
        exact ⟨.inr rfl, rfl⟩
      · replace h := of_false h hb
        refine AWp.keepTo [1, 2, 5] 0 ⟨[(1, .tv (fzL 1 (cSl 1 (cInt .u8)) v2)), (2, .rp [.str v1.f0, .int .i64 v1.f1, fzL 1 (cInt .u8) v1.f2]), (5, .tv (.sc (.pointer none)))], []⟩ ?_ (Nat.zero_le _) ?_
        · kernel_rfl
        refine AWp.skip ?_
        refine AWp.seq ?_
        refine AWp.start [0] [] [] [1, 2, 5, 7] 0 ⟨[(1, .tv (fzL 1 (cSl 1 (cInt .u8)) v2)), (2, .rp [.str v1.f0, .int .i64 v1.f1, fzL 1 (cInt .u8) v1.f2]), (5, .tv (.sc (.pointer none))), (7, .tv (.sc (.slice none 0 0)))], []⟩ rfl ?_ (Nat.zero_le _) trivial ?_
        · kernel_rfl
        refine AOps.nil ?_
        refine AWp.seq ?_
        refine AWp.seq ?_
        refine AWp.start [0] [] [] [1, 2, 5, 7, 8] 0 ⟨[(1, .tv (fzL 1 (cSl 1 (cInt .u8)) v2)), (2, .rp [.str v1.f0, .int .i64 v1.f1, fzL 1 (cInt .u8) v1.f2]), (5, .tv (.sc (.pointer none))), (7, .tv (.sc (.slice none 0 0))), (8, .tv (.int .i64 (0 : Int)))], []⟩ rfl ?_ (Nat.zero_le _) trivial ?_
        · kernel_rfl
        refine AOps.nil ?_
        refine AWp.block ?_
        obtain ⟨y, hy, h⟩ := of_bind h
        refine AWp.mono (AWp.loop (S := Unit) (Y := Out Bool Unit) (fun _ => ⟨[(1, .tv (fzL 1 (cSl 1 (cInt .u8)) v2)), (2, .rp [.str v1.f0, .int .i64 v1.f1, fzL 1 (cInt .u8) v1.f2]), (5, .tv (.sc (.pointer none))), (7, .tv (.sc (.slice none 0 0))), (8, .tv (.int .i64 (0 : Int)))], []⟩) (fun _ => f4_b1 v2) (fun y e σ => match y with | .ret r => e = .ret ∧ σ = ⟨[(4, .tv (.bool r))], []⟩ | .go v => e = .exit 0 ∧ σ = ⟨[(2, .rp [.str v1.f0, .int .i64 v1.f1, fzL 1 (cInt .u8) v1.f2]), (5, .tv (.sc (.pointer none))), (7, .tv (.sc (.slice none 0 0)))], []⟩) ?_ hy) ?_
        · rintro ⟨⟩ o h
          refine AWp.seq ?_
          refine AWp.seq ?_
          refine AWp.start [0, 1, 2, 3] [] [] [1, 2, 5, 7, 8, 59] 0 ⟨[(1, .tv (fzL 1 (cSl 1 (cInt .u8)) v2)), (2, .rp [.str v1.f0, .int .i64 v1.f1, fzL 1 (cInt .u8) v1.f2]), (5, .tv (.sc (.pointer none))), (7, .tv (.sc (.slice none 0 0))), (8, .tv (.int .i64 (0 : Int))), (59, .tv (.bool (decide ((0 : Int) < (v2.length : Int)))))], []⟩ rfl ?_ (Nat.zero_le _) trivial ?_
          · kernel_rfl
          refine AOps.nil ?_
          refine AWp.cond rfl (fun hb => ?_) fun hb => ?_
          · replace h := of_true h hb
            refine AWp.keepTo [1, 2, 5, 7, 8] 0 ⟨[(1, .tv (fzL 1 (cSl 1 (cInt .u8)) v2)), (2, .rp [.str v1.f0, .int .i64 v1.f1, fzL 1 (cInt .u8) v1.f2]), (5, .tv (.sc (.pointer none))), (7, .tv (.sc (.slice none 0 0))), (8, .tv (.int .i64 (0 : Int)))], []⟩ ?_ (Nat.zero_le _) ?_
            · kernel_rfl
            refine AWp.skip ?_
            refine AWp.seq ?_
            refine AWp.block ?_
            refine AWp.seq ?_
            refine AWp.seq ?_
            cases h
          · replace h := of_false h hb
            refine AWp.keepTo [2, 5, 7] 0 ⟨[(2, .rp [.str v1.f0, .int .i64 v1.f1, fzL 1 (cInt .u8) v1.f2]), (5, .tv (.sc (.pointer none))), (7, .tv (.sc (.slice none 0 0)))], []⟩ ?_ (Nat.zero_le _) ?_
            · kernel_rfl
            refine AWp.exit ?_
            cases h
            exact Or.inr ⟨_, rfl, by simp, rfl, rfl⟩
        · intro e σ hp
          rcases y with v12 | _
          · obtain ⟨rfl, rfl⟩ := hp
            cases h
            exact ⟨.inr rfl, rfl⟩
          · obtain ⟨rfl, rfl⟩ := hp
            refine AWp.seq ?_
            refine AWp.seq ?_
            refine AWp.start [0, 1, 2] [] [] [2, 5, 7, 79] 0 ⟨[(2, .rp [.str v1.f0, .int .i64 v1.f1, fzL 1 (cInt .u8) v1.f2]), (5, .tv (.sc (.pointer none))), (7, .tv (.sc (.slice none 0 0))), (79, .tv (.bool ((0 : Int) == (0 : Int))))], []⟩ rfl ?_ (Nat.zero_le _) trivial ?_
            · kernel_rfl
            refine AOps.nil ?_
            refine AWp.cond rfl (fun hb => ?_) fun hb => ?_
            · replace h := of_true h hb
              refine AWp.keepTo [] 0 ⟨[], []⟩ ?_ (Nat.zero_le _) ?_
              · kernel_rfl
              refine AWp.seq ?_
              refine AWp.start [] [0, 1] [] [] 0 ⟨[], []⟩ rfl ?_ (Nat.zero_le _) trivial ?_
              · kernel_rfl
              obtain ⟨v13, hv13, h⟩ := of_bind h
              refine AOps.cons (AOne.callP (F := (FF 211 0)) _ rfl rfl rfl _ rfl rfl _ _ rfl Try.call9 [] rfl rfl (f9_ok  hv13) rfl) ?_
              refine AOps.go [1] [] [] [4] 0 ⟨[(4, .tv (.bool v13))], []⟩ ?_ (Nat.zero_le _) trivial ?_
              · kernel_rfl
              refine AOps.nil ?_
              refine AWp.ret ?_
              cases h
              exact ⟨.inr rfl, rfl⟩
            · replace h := of_false h hb
              refine AWp.keepTo [2, 5, 7] 0 ⟨[(2, .rp [.str v1.f0, .int .i64 v1.f1, fzL 1 (cInt .u8) v1.f2]), (5, .tv (.sc (.pointer none))), (7, .tv (.sc (.slice none 0 0)))], []⟩ ?_ (Nat.zero_le _) ?_
              · kernel_rfl
              refine AWp.skip ?_
              refine AWp.seq ?_
              refine AWp.seq ?_
              cases h
    · replace h : (cond (v10 != (0 : Int)) ((f9 ).bind fun v14 => some v14) ((iter (fun s => f4_b2 v2 s.1 s.2.1 s.2.2.1 s.2.2.2.1 s.2.2.2.2.1 s.2.2.2.2.2.1 s.2.2.2.2.2.2) ([], (0 : Int), v9.f0, v9.f1, v9.f2, v9.f3, v9.f4)).bind fun y => match y with | .ret v30 => some v30 | .go (v22, v23, v24, v25, v26, v27) => cond ((v22.length : Int) == (0 : Int)) ((f9 ).bind fun v31 => some v31) ((f18 (T64.mk v23 v24 v25 v26 v27)).bind fun v32 => (cond (v32.1 != (v22.length : Int)) (some true) (some (v32.2 != (0 : Int)))).bind fun v33 => (cond v33 (some true) ((f19 (T64.mk v23 v24 v25 v26 v27)).bind fun v35 => some (v35 != v32.1))).bind fun v34 => (cond v34 (some (true, v23, v24, v25, v26, v27)) ((f20o (T64.mk v23 v24 v25 v26 v27)).bind fun v42 => some ((v42.1 != (0 : Int)), v42.2.f0, v42.2.f1, v42.2.f2, v42.2.f3, v42.2.f4))).bind fun (v36, v37, v38, v39, v40, v41) => cond v36 (some false) ((f21o (T64.mk v37 v38 v39 v40 v41)).bind fun v43 => (f16 v1.f0 (0 : Int) v43).bind fun v44 => match v44 with | (none, v46) => cond (v46 != (0 : Int)) (some false) ((iter (fun _ => f4_b3 v22 v37 v38 v39 v40 v41) ()).bind fun y => match y with | .ret v48 => some v48 | .go _ => (f22o (T64.mk v37 v38 v39 v40 v41)).bind fun v49 => cond (v49.2.1 != (6 : Int)) (some false) ((f22o v49.2.2).bind fun v50 => (cond (v50.2.1 != (110 : Int)) (some (true, v50.2.2.f0, v50.2.2.f1, v50.2.2.f2, v50.2.2.f3, v50.2.2.f4)) ((f23o v50.2.2).bind fun v57 => some ((v57.1 != (0 : Int)), v57.2.f0, v57.2.f1, v57.2.f2, v57.2.f3, v57.2.f4))).bind fun (v51, v52, v53, v54, v55, v56) => cond v51 (some false) ((iter (fun s => f4_b4 v22 s.1 s.2.1 s.2.2.1 s.2.2.2.1 s.2.2.2.2.1 s.2.2.2.2.2) (w64 ((v22.length : Int) - (1 : Int)), v52, v53, v54, v55, v56)).bind fun y => match y with | .ret v78 => some v78 | .go (v64, v65, v66, v67, v68) => (f19 (T64.mk v64 v65 v66 v67 v68)).bind fun v79 => (cond (v79 == (0 : Int)) ((f9 ).bind fun v81 => some v81) (some false)).bind fun v80 => some v80))) | (some v45, v46) => cond (v46 != (0 : Int)) (some false) ((iter (fun s => f4_b5 v22 s.1 s.2.1 s.2.2.1 s.2.2.2.1 s.2.2.2.2.1 s.2.2.2.2.2.1 s.2.2.2.2.2.2.1 s.2.2.2.2.2.2.2.1 s.2.2.2.2.2.2.2.2.1 s.2.2.2.2.2.2.2.2.2.1 s.2.2.2.2.2.2.2.2.2.2) ((0 : Int), v37, v38, v39, v40, v41, v45.f0, v45.f1, v45.f2, v45.f3, v45.f4)).bind fun y => match y with | .ret v101 => some v101 | .go (v93, v94, v95, v96, v97) => (f22o (T64.mk v93 v94 v95 v96 v97)).bind fun v102 => cond (v102.2.1 != (6 : Int)) (some false) ((f22o v102.2.2).bind fun v103 => (cond (v103.2.1 != (110 : Int)) (some (true, v103.2.2.f0, v103.2.2.f1, v103.2.2.f2, v103.2.2.f3, v103.2.2.f4)) ((f23o v103.2.2).bind fun v110 => some ((v110.1 != (0 : Int)), v110.2.f0, v110.2.f1, v110.2.f2, v110.2.f3, v110.2.f4))).bind fun (v104, v105, v106, v107, v108, v109) => cond v104 (some false) ((iter (fun s => f4_b6 v22 s.1 s.2.1 s.2.2.1 s.2.2.2.1 s.2.2.2.2.1 s.2.2.2.2.2) (w64 ((v22.length : Int) - (1 : Int)), v105, v106, v107, v108, v109)).bind fun y => match y with | .ret v131 => some v131 | .go (v117, v118, v119, v120, v121) => (f19 (T64.mk v117 v118 v119 v120 v121)).bind fun v132 => (cond (v132 == (0 : Int)) ((f9 ).bind fun v134 => some v134) (some false)).bind fun v133 => some v133))))))) = some r := h
      refine AOps.cons (AOne.callO (F := (FF 211 0)) _ rfl rfl rfl 50 rfl rfl 16 [] rfl Try.call16 [] (by decide) [.tv (.str v1.f0), .tv (.int .i64 v1.f1), .tv (fzL 1 (cInt .u8) v1.f2)] (by kernel_rfl) [] (by kernel_rfl) (f16_ok v1.f0 v1.f1 v1.f2 hv8) (by kernel_rfl) (by kernel_rfl) _ rfl) ?_
      refine AOps.go [7, 8, 9, 10, 11] [] [] [1, 2, 5, 6] 1 ⟨[(1, .tv (fzL 1 (cSl 1 (cInt .u8)) v2)), (2, .rp [.str v1.f0, .int .i64 v1.f1, fzL 1 (cInt .u8) v1.f2]), (5, .pc 0 0), (6, .tv (.int .i64 v10))], [.cells 65 [.str v9.f0, .int .i64 v9.f1, fzL 1 (cInt .u8) v9.f2, .int .i64 v9.f3, .bool v9.f4]]⟩ ?_ (Nat.zero_le _) trivial ?_
      · kernel_rfl
      refine AOps.nil ?_
      refine AWp.seq ?_
      refine AWp.seq ?_
      refine AWp.start [0, 1] [] [] [1, 2, 5, 54] 1 ⟨[(1, .tv (fzL 1 (cSl 1 (cInt .u8)) v2)), (2, .rp [.str v1.f0, .int .i64 v1.f1, fzL 1 (cInt .u8) v1.f2]), (5, .pc 0 0), (54, .tv (.bool (v10 != (0 : Int))))], [.cells 65 [.str v9.f0, .int .i64 v9.f1, fzL 1 (cInt .u8) v9.f2, .int .i64 v9.f3, .bool v9.f4]]⟩ rfl ?_ (Nat.zero_le _) trivial ?_
      · kernel_rfl
      refine AOps.nil ?_
      refine AWp.cond rfl (fun hb => ?_) fun hb => ?_
      · replace h := of_true h hb
        refine AWp.keepTo [] 0 ⟨[], []⟩ ?_ (Nat.zero_le _) ?_
        · kernel_rfl
        refine AWp.seq ?_
        refine AWp.start [] [0, 1] [] [] 0 ⟨[], []⟩ rfl ?_ (Nat.zero_le _) trivial ?_
        · kernel_rfl
        obtain ⟨v14, hv14, h⟩ := of_bind h
        refine AOps.cons (AOne.callP (F := (FF 211 0)) _ rfl rfl rfl _ rfl rfl _ _ rfl Try.call9 [] rfl rfl (f9_ok  hv14) rfl) ?_
        refine AOps.go [1] [] [] [4] 0 ⟨[(4, .tv (.bool v14))], []⟩ ?_ (Nat.zero_le _) trivial ?_
        · kernel_rfl
        refine AOps.nil ?_
        refine AWp.ret ?_
        cases h
        exact ⟨.inr rfl, rfl⟩
      · replace h := of_false h hb
        refine AWp.keepTo [1, 2, 5] 1 ⟨[(1, .tv (fzL 1 (cSl 1 (cInt .u8)) v2)), (2, .rp [.str v1.f0, .int .i64 v1.f1, fzL 1 (cInt .u8) v1.f2]), (5, .pc 0 0)], [.cells 65 [.str v9.f0, .int .i64 v9.f1, fzL 1 (cInt .u8) v9.f2, .int .i64 v9.f3, .bool v9.f4]]⟩ ?_ (Nat.zero_le _) ?_
        · kernel_rfl
        refine AWp.skip ?_
        refine AWp.seq ?_
        refine AWp.start [0] [] [] [1, 2, 5, 7] 1 ⟨[(1, .tv (fzL 1 (cSl 1 (cInt .u8)) v2)), (2, .rp [.str v1.f0, .int .i64 v1.f1, fzL 1 (cInt .u8) v1.f2]), (5, .pc 0 0), (7, .tv (.sc (.slice none 0 0)))], [.cells 65 [.str v9.f0, .int .i64 v9.f1, fzL 1 (cInt .u8) v9.f2, .int .i64 v9.f3, .bool v9.f4]]⟩ rfl ?_ (Nat.zero_le _) trivial ?_
        · kernel_rfl
        refine AOps.nil ?_
        refine AWp.seq ?_
        refine AWp.seq ?_
        refine AWp.start [0] [] [] [1, 2, 5, 7, 8] 1 ⟨[(1, .tv (fzL 1 (cSl 1 (cInt .u8)) v2)), (2, .rp [.str v1.f0, .int .i64 v1.f1, fzL 1 (cInt .u8) v1.f2]), (5, .pc 0 0), (7, .tv (.sc (.slice none 0 0))), (8, .tv (.int .i64 (0 : Int)))], [.cells 65 [.str v9.f0, .int .i64 v9.f1, fzL 1 (cInt .u8) v9.f2, .int .i64 v9.f3, .bool v9.f4]]⟩ rfl ?_ (Nat.zero_le _) trivial ?_
        · kernel_rfl
        refine AOps.nil ?_
        refine AWp.block ?_
        refine AWp.nilOwn 7 1 22 (fun i => (cSl 1 (cInt .u8)) (([] : List (List Int)).getD i default)) rfl ?_
        refine AWp.keepTo [1, 2, 5, 7, 8] 1 ⟨[(1, .tv (fzL 1 (cSl 1 (cInt .u8)) v2)), (2, .rp [.str v1.f0, .int .i64 v1.f1, fzL 1 (cInt .u8) v1.f2]), (5, .pc 0 0), (7, .tv (ownL 1 22 (cSl 1 (cInt .u8)) ([] : List (List Int)))), (8, .tv (.int .i64 (0 : Int)))], [.cells 65 [.str v9.f0, .int .i64 v9.f1, fzL 1 (cInt .u8) v9.f2, .int .i64 v9.f3, .bool v9.f4]]⟩ ?_ (Nat.zero_le _) ?_
        · kernel_rfl
        obtain ⟨y, hy, h⟩ := of_bind h
        refine AWp.mono (AWp.loop (S := (List (List Int)) × Int × (List UInt8) × Int × (List Int) × Int × Bool) (Y := Out Bool ((List (List Int)) × (List UInt8) × Int × (List Int) × Int × Bool)) (fun s => ⟨[(1, .tv (fzL 1 (cSl 1 (cInt .u8)) v2)), (2, .rp [.str v1.f0, .int .i64 v1.f1, fzL 1 (cInt .u8) v1.f2]), (5, .pc 0 0), (7, .tv (ownL 1 22 (cSl 1 (cInt .u8)) s.1)), (8, .tv (.int .i64 s.2.1))], [.cells 65 [.str s.2.2.1, .int .i64 s.2.2.2.1, fzL 1 (cInt .u8) s.2.2.2.2.1, .int .i64 s.2.2.2.2.2.1, .bool s.2.2.2.2.2.2]]⟩) (fun s => f4_b2 v2 s.1 s.2.1 s.2.2.1 s.2.2.2.1 s.2.2.2.2.1 s.2.2.2.2.2.1 s.2.2.2.2.2.2) (fun y e σ => match y with | .ret r => e = .ret ∧ σ = ⟨[(4, .tv (.bool r))], []⟩ | .go v => e = .exit 0 ∧ σ = ⟨[(2, .rp [.str v1.f0, .int .i64 v1.f1, fzL 1 (cInt .u8) v1.f2]), (5, .pc 0 0), (7, .tv (ownL 1 22 (cSl 1 (cInt .u8)) v.1))], [.cells 65 [.str v.2.1, .int .i64 v.2.2.1, fzL 1 (cInt .u8) v.2.2.2.1, .int .i64 v.2.2.2.2.1, .bool v.2.2.2.2.2]]⟩) ?_ hy) ?_
        · rintro ⟨v15, v16, v17, v18, v19, v20, v21⟩ o h
          refine AWp.seq ?_
          refine AWp.seq ?_
          refine AWp.start [0, 1, 2, 3] [] [] [1, 2, 5, 7, 8, 59] 1 ⟨[(1, .tv (fzL 1 (cSl 1 (cInt .u8)) v2)), (2, .rp [.str v1.f0, .int .i64 v1.f1, fzL 1 (cInt .u8) v1.f2]), (5, .pc 0 0), (7, .tv (ownL 1 22 (cSl 1 (cInt .u8)) v15)), (8, .tv (.int .i64 v16)), (59, .tv (.bool (decide (v16 < (v2.length : Int)))))], [.cells 65 [.str v17, .int .i64 v18, fzL 1 (cInt .u8) v19, .int .i64 v20, .bool v21]]⟩ rfl ?_ (Nat.zero_le _) trivial ?_
          · kernel_rfl
          refine AOps.nil ?_
          refine AWp.cond rfl (fun hb => ?_) fun hb => ?_
          · replace h := of_true h hb
            refine AWp.keepTo [1, 2, 5, 7, 8] 1 ⟨[(1, .tv (fzL 1 (cSl 1 (cInt .u8)) v2)), (2, .rp [.str v1.f0, .int .i64 v1.f1, fzL 1 (cInt .u8) v1.f2]), (5, .pc 0 0), (7, .tv (ownL 1 22 (cSl 1 (cInt .u8)) v15)), (8, .tv (.int .i64 v16))], [.cells 65 [.str v17, .int .i64 v18, fzL 1 (cInt .u8) v19, .int .i64 v20, .bool v21]]⟩ ?_ (Nat.zero_le _) ?_
            · kernel_rfl
            refine AWp.skip ?_
            refine AWp.seq ?_
            refine AWp.block ?_
            refine AWp.seq ?_
            refine AWp.seq ?_
            obtain ⟨hg, h⟩ := of_guard h
            refine AWp.start [0, 1, 2, 3, 4] [5, 6] [(0 : Int) ≤ v16, v16 < (v2.length : Int)] [1, 2, 5, 7, 8, 62, 66] 1 ⟨[(1, .tv (fzL 1 (cSl 1 (cInt .u8)) v2)), (2, .rp [.str v1.f0, .int .i64 v1.f1, fzL 1 (cInt .u8) v1.f2]), (5, .pc 0 0), (7, .tv (ownL 1 22 (cSl 1 (cInt .u8)) v15)), (8, .tv (.int .i64 v16)), (62, .pc 0 0), (66, .tv (fzL 1 (cInt .u8) (v2.getD v16.toNat default)))], [.cells 65 [.str v17, .int .i64 v18, fzL 1 (cInt .u8) v19, .int .i64 v20, .bool v21]]⟩ rfl ?_ (Nat.zero_le _) ⟨hg.1, hg.2⟩ ?_
            · kernel_rfl
            obtain ⟨v28, hv28, h⟩ := of_bind h
            refine AOps.cons (AOne.callO (F := (FF 211 0)) _ rfl rfl rfl 67 rfl rfl 17 [] rfl Try.call17 [0] (by decide) [.pc 0 0, .tv (fzL 1 (cInt .u8) (v2.getD v16.toNat default))] (by kernel_rfl) [.cells 65 [.str v17, .int .i64 v18, fzL 1 (cInt .u8) v19, .int .i64 v20, .bool v21]] (by kernel_rfl) (f17o_ok (v2.getD v16.toNat default) (T64.mk v17 v18 v19 v20 v21) hv28) (by kernel_rfl) (by kernel_rfl) _ rfl) ?_
            refine AOps.go [6] [] [] [1, 2, 5, 7, 8, 68] 1 ⟨[(1, .tv (fzL 1 (cSl 1 (cInt .u8)) v2)), (2, .rp [.str v1.f0, .int .i64 v1.f1, fzL 1 (cInt .u8) v1.f2]), (5, .pc 0 0), (7, .tv (ownL 1 22 (cSl 1 (cInt .u8)) v15)), (8, .tv (.int .i64 v16)), (68, .tv (.bool (v28.1 != (0 : Int))))], [.cells 65 [.str v28.2.f0, .int .i64 v28.2.f1, fzL 1 (cInt .u8) v28.2.f2, .int .i64 v28.2.f3, .bool v28.2.f4]]⟩ ?_ (Nat.zero_le _) trivial ?_
            · kernel_rfl
            refine AOps.nil ?_
            refine AWp.cond rfl (fun hb => ?_) fun hb => ?_
            · replace h := of_true h hb
              refine AWp.keepTo [] 0 ⟨[], []⟩ ?_ (Nat.zero_le _) ?_
              · kernel_rfl
              refine AWp.seq ?_
              refine AWp.start [] [0, 1] [] [] 0 ⟨[], []⟩ rfl ?_ (Nat.zero_le _) trivial ?_
              · kernel_rfl
              obtain ⟨v29, hv29, h⟩ := of_bind h
              refine AOps.cons (AOne.callP (F := (FF 211 0)) _ rfl rfl rfl _ rfl rfl _ _ rfl Try.call9 [] rfl rfl (f9_ok  hv29) rfl) ?_
              refine AOps.go [1] [] [] [4] 0 ⟨[(4, .tv (.bool v29))], []⟩ ?_ (Nat.zero_le _) trivial ?_
              · kernel_rfl
              refine AOps.nil ?_
              refine AWp.ret ?_
              cases h
              exact Or.inr ⟨_, rfl, by simp, rfl, rfl⟩
            · replace h := of_false h hb
              refine AWp.keepTo [1, 2, 5, 7, 8] 1 ⟨[(1, .tv (fzL 1 (cSl 1 (cInt .u8)) v2)), (2, .rp [.str v1.f0, .int .i64 v1.f1, fzL 1 (cInt .u8) v1.f2]), (5, .pc 0 0), (7, .tv (ownL 1 22 (cSl 1 (cInt .u8)) v15)), (8, .tv (.int .i64 v16))], [.cells 65 [.str v28.2.f0, .int .i64 v28.2.f1, fzL 1 (cInt .u8) v28.2.f2, .int .i64 v28.2.f3, .bool v28.2.f4]]⟩ ?_ (Nat.zero_le _) ?_
              · kernel_rfl
              refine AWp.skip ?_
              obtain ⟨hg, h⟩ := of_guard h
              refine AWp.start [0, 1, 2, 3, 4, 5] [6, 7] [(0 : Int) ≤ v16, v16 < (v2.length : Int)] [1, 2, 5, 7, 8, 70, 75] 1 ⟨[(1, .tv (fzL 1 (cSl 1 (cInt .u8)) v2)), (2, .rp [.str v1.f0, .int .i64 v1.f1, fzL 1 (cInt .u8) v1.f2]), (5, .pc 0 0), (7, .tv (ownL 1 22 (cSl 1 (cInt .u8)) v15)), (8, .tv (.int .i64 v16)), (70, .al (.slot 7 0, [])), (75, .tv (.own 1 22 1 (newRowF [fzL 1 (cInt .u8) (v2.getD v16.toNat default)] 1)))], [.cells 65 [.str v28.2.f0, .int .i64 v28.2.f1, fzL 1 (cInt .u8) v28.2.f2, .int .i64 v28.2.f3, .bool v28.2.f4]]⟩ rfl ?_ (Nat.zero_le _) ⟨hg.1, hg.2⟩ ?_
              · kernel_rfl
              refine AOps.extL 75 (cSl 1 (cInt .u8)) [v2.getD v16.toNat default] rfl rfl (row_at (cSl 1 (cInt .u8)) 1 (fun _ => rfl) [v2.getD v16.toNat default] _ rfl) ?_
              obtain ⟨hg, h⟩ := of_guard h
              refine AOps.go [6] [7] [(v15.length + [v2.getD v16.toNat default].length) * 24 ≤ 140737488355328, PlainTo v15.length (fun i => (cSl 1 (cInt .u8)) (v15.getD i default)), PlainTo ([v2.getD v16.toNat default].length) (fun i => (cSl 1 (cInt .u8)) ([v2.getD v16.toNat default].getD i default))] [1, 2, 5, 8, 76] 1 ⟨[(1, .tv (fzL 1 (cSl 1 (cInt .u8)) v2)), (2, .rp [.str v1.f0, .int .i64 v1.f1, fzL 1 (cInt .u8) v1.f2]), (5, .pc 0 0), (8, .tv (.int .i64 v16)), (76, .tv (.own 1 22 (v15.length + [v2.getD v16.toNat default].length) (appF v15.length (fun i => (cSl 1 (cInt .u8)) (v15.getD i default)) (fun i => (cSl 1 (cInt .u8)) ([v2.getD v16.toNat default].getD i default)))))], [.cells 65 [.str v28.2.f0, .int .i64 v28.2.f1, fzL 1 (cInt .u8) v28.2.f2, .int .i64 v28.2.f3, .bool v28.2.f4]]⟩ ?_ (Nat.zero_le _) ⟨hg, (fun _ _ => rfl), (fun _ _ => rfl)⟩ ?_
              · kernel_rfl
              refine AOps.extL 76 (cSl 1 (cInt .u8)) (v15 ++ [v2.getD v16.toNat default]) rfl List.length_append.symm (app_at (cSl 1 (cInt .u8)) v15 [v2.getD v16.toNat default]) ?_
              refine AOps.go [7] [] [] [1, 2, 5, 7, 8] 1 ⟨[(1, .tv (fzL 1 (cSl 1 (cInt .u8)) v2)), (2, .rp [.str v1.f0, .int .i64 v1.f1, fzL 1 (cInt .u8) v1.f2]), (5, .pc 0 0), (7, .tv (ownL 1 22 (cSl 1 (cInt .u8)) (v15 ++ [v2.getD v16.toNat default]))), (8, .tv (.int .i64 v16))], [.cells 65 [.str v28.2.f0, .int .i64 v28.2.f1, fzL 1 (cInt .u8) v28.2.f2, .int .i64 v28.2.f3, .bool v28.2.f4]]⟩ ?_ (Nat.zero_le _) trivial ?_
              · kernel_rfl
              refine AOps.nil ?_
              refine AWp.start [0, 1, 2] [] [] [1, 2, 5, 7, 8] 1 ⟨[(1, .tv (fzL 1 (cSl 1 (cInt .u8)) v2)), (2, .rp [.str v1.f0, .int .i64 v1.f1, fzL 1 (cInt .u8) v1.f2]), (5, .pc 0 0), (7, .tv (ownL 1 22 (cSl 1 (cInt .u8)) (v15 ++ [v2.getD v16.toNat default]))), (8, .tv (.int .i64 (w64 (v16 + (1 : Int)))))], [.cells 65 [.str v28.2.f0, .int .i64 v28.2.f1, fzL 1 (cInt .u8) v28.2.f2, .int .i64 v28.2.f3, .bool v28.2.f4]]⟩ rfl ?_ (Nat.zero_le _) trivial ?_
              · kernel_rfl
              refine AOps.nil ?_
              cases h
              exact Or.inl ⟨_, rfl, rfl, rfl⟩
          · replace h := of_false h hb
            refine AWp.keepTo [2, 5, 7] 1 ⟨[(2, .rp [.str v1.f0, .int .i64 v1.f1, fzL 1 (cInt .u8) v1.f2]), (5, .pc 0 0), (7, .tv (ownL 1 22 (cSl 1 (cInt .u8)) v15))], [.cells 65 [.str v17, .int .i64 v18, fzL 1 (cInt .u8) v19, .int .i64 v20, .bool v21]]⟩ ?_ (Nat.zero_le _) ?_
            · kernel_rfl
            refine AWp.exit ?_
            cases h
            exact Or.inr ⟨_, rfl, by simp, rfl, rfl⟩
        · intro e σ hp
          rcases y with v30 | ⟨v22, v23, v24, v25, v26, v27⟩
          · obtain ⟨rfl, rfl⟩ := hp
            cases h
            exact ⟨.inr rfl, rfl⟩
          · obtain ⟨rfl, rfl⟩ := hp
            refine AWp.seq ?_
            refine AWp.seq ?_
            refine AWp.start [0, 1, 2] [] [] [2, 5, 7, 79] 1 ⟨[(2, .rp [.str v1.f0, .int .i64 v1.f1, fzL 1 (cInt .u8) v1.f2]), (5, .pc 0 0), (7, .tv (ownL 1 22 (cSl 1 (cInt .u8)) v22)), (79, .tv (.bool ((v22.length : Int) == (0 : Int))))], [.cells 65 [.str v23, .int .i64 v24, fzL 1 (cInt .u8) v25, .int .i64 v26, .bool v27]]⟩ rfl ?_ (Nat.zero_le _) trivial ?_
            · kernel_rfl
            refine AOps.nil ?_
            refine AWp.cond rfl (fun hb => ?_) fun hb => ?_
            · replace h := of_true h hb
              refine AWp.keepTo [] 0 ⟨[], []⟩ ?_ (Nat.zero_le _) ?_
              · kernel_rfl
              refine AWp.seq ?_
              refine AWp.start [] [0, 1] [] [] 0 ⟨[], []⟩ rfl ?_ (Nat.zero_le _) trivial ?_
              · kernel_rfl
              obtain ⟨v31, hv31, h⟩ := of_bind h
              refine AOps.cons (AOne.callP (F := (FF 211 0)) _ rfl rfl rfl _ rfl rfl _ _ rfl Try.call9 [] rfl rfl (f9_ok  hv31) rfl) ?_
              refine AOps.go [1] [] [] [4] 0 ⟨[(4, .tv (.bool v31))], []⟩ ?_ (Nat.zero_le _) trivial ?_
              · kernel_rfl
              refine AOps.nil ?_
              refine AWp.ret ?_
              cases h
              exact ⟨.inr rfl, rfl⟩
            · replace h := of_false h hb
              refine AWp.keepTo [2, 5, 7] 1 ⟨[(2, .rp [.str v1.f0, .int .i64 v1.f1, fzL 1 (cInt .u8) v1.f2]), (5, .pc 0 0), (7, .tv (ownL 1 22 (cSl 1 (cInt .u8)) v22))], [.cells 65 [.str v23, .int .i64 v24, fzL 1 (cInt .u8) v25, .int .i64 v26, .bool v27]]⟩ ?_ (Nat.zero_le _) ?_
              · kernel_rfl
              refine AWp.skip ?_
              refine AWp.seq ?_
              refine AWp.seq ?_
              refine AWp.start [0] [1, 2, 3, 4, 5, 6] [] [2, 5, 7, 82] 1 ⟨[(2, .rp [.str v1.f0, .int .i64 v1.f1, fzL 1 (cInt .u8) v1.f2]), (5, .pc 0 0), (7, .tv (ownL 1 22 (cSl 1 (cInt .u8)) v22)), (82, .pc 0 0)], [.cells 65 [.str v23, .int .i64 v24, fzL 1 (cInt .u8) v25, .int .i64 v26, .bool v27]]⟩ rfl ?_ (Nat.zero_le _) trivial ?_
              · kernel_rfl
              obtain ⟨v32, hv32, h⟩ := of_bind h
              refine AOps.cons (AOne.callR (F := (FF 211 0)) _ rfl rfl rfl _ rfl rfl _ _ rfl Try.call18 [] [.rp [.str v23, .int .i64 v24, fzL 1 (cInt .u8) v25, .int .i64 v26, .bool v27]] rfl trivial (f18_ok (T64.mk v23 v24 v25 v26 v27) hv32) (ind_of rfl) rfl) ?_
              refine AOps.go [2, 3, 4, 5, 6] [] [] [2, 5, 7, 9, 10] 1 ⟨[(2, .rp [.str v1.f0, .int .i64 v1.f1, fzL 1 (cInt .u8) v1.f2]), (5, .pc 0 0), (7, .tv (ownL 1 22 (cSl 1 (cInt .u8)) v22)), (9, .tv (.int .i64 v32.1)), (10, .tv (.int .i64 v32.2))], [.cells 65 [.str v23, .int .i64 v24, fzL 1 (cInt .u8) v25, .int .i64 v26, .bool v27]]⟩ ?_ (Nat.zero_le _) trivial ?_
              · kernel_rfl
              refine AOps.nil ?_
              refine AWp.seq ?_
              refine AWp.start [0, 1, 2, 3, 4] [5, 6, 7, 8, 9, 10, 11, 12, 13, 14, 15, 16, 17, 18] [] [2, 5, 7, 9, 10, 90] 1 ⟨[(2, .rp [.str v1.f0, .int .i64 v1.f1, fzL 1 (cInt .u8) v1.f2]), (5, .pc 0 0), (7, .tv (ownL 1 22 (cSl 1 (cInt .u8)) v22)), (9, .tv (.int .i64 v32.1)), (10, .tv (.int .i64 v32.2)), (90, .tv (.bool (v32.1 != (v22.length : Int))))], [.cells 65 [.str v23, .int .i64 v24, fzL 1 (cInt .u8) v25, .int .i64 v26, .bool v27]]⟩ rfl ?_ (Nat.zero_le _) trivial ?_
              · kernel_rfl
              obtain ⟨v33, hc5, h⟩ := of_bind h
              refine AOps.cut [5, 6, 7] [8, 9, 10, 11, 12, 13, 14, 15, 16, 17, 18] (fun σ => σ = ⟨[(2, .rp [.str v1.f0, .int .i64 v1.f1, fzL 1 (cInt .u8) v1.f2]), (5, .pc 0 0), (7, .tv (ownL 1 22 (cSl 1 (cInt .u8)) v22)), (9, .tv (.int .i64 v32.1)), (93, .tv (.bool v33))], [.cells 65 [.str v23, .int .i64 v24, fzL 1 (cInt .u8) v25, .int .i64 v26, .bool v27]]⟩) ?_ fun σ' hJ => ?_
              · refine AOps.split (fun b => ⟨[(2, .rp [.str v1.f0, .int .i64 v1.f1, fzL 1 (cInt .u8) v1.f2]), (5, .pc 0 0), (7, .tv (ownL 1 22 (cSl 1 (cInt .u8)) v22)), (9, .tv (.int .i64 v32.1)), (10, .tv (.int .i64 v32.2)), (90, .tv (.bool b))], [.cells 65 [.str v23, .int .i64 v24, fzL 1 (cInt .u8) v25, .int .i64 v26, .bool v27]]⟩) _ (fun hb => ?_) fun hb => ?_
                · replace hc5 := of_true hc5 hb
                  refine AOps.go [5, 6, 7] [] [] [2, 5, 7, 9, 93] 1 ⟨[(2, .rp [.str v1.f0, .int .i64 v1.f1, fzL 1 (cInt .u8) v1.f2]), (5, .pc 0 0), (7, .tv (ownL 1 22 (cSl 1 (cInt .u8)) v22)), (9, .tv (.int .i64 v32.1)), (93, .tv (.bool true))], [.cells 65 [.str v23, .int .i64 v24, fzL 1 (cInt .u8) v25, .int .i64 v26, .bool v27]]⟩ ?_ (Nat.zero_le _) trivial ?_
                  · kernel_rfl
                  cases hc5
                  exact AOps.nil rfl
                · replace hc5 := of_false hc5 hb
                  refine AOps.go [5, 6, 7] [] [] [2, 5, 7, 9, 93] 1 ⟨[(2, .rp [.str v1.f0, .int .i64 v1.f1, fzL 1 (cInt .u8) v1.f2]), (5, .pc 0 0), (7, .tv (ownL 1 22 (cSl 1 (cInt .u8)) v22)), (9, .tv (.int .i64 v32.1)), (93, .tv (.bool (v32.2 != (0 : Int))))], [.cells 65 [.str v23, .int .i64 v24, fzL 1 (cInt .u8) v25, .int .i64 v26, .bool v27]]⟩ ?_ (Nat.zero_le _) trivial ?_
                  · kernel_rfl
                  cases hc5
                  exact AOps.nil rfl
              subst hJ
              refine AOps.go [8] [9, 10, 11, 12, 13, 14, 15, 16, 17, 18] [] [2, 5, 7, 9, 94] 1 ⟨[(2, .rp [.str v1.f0, .int .i64 v1.f1, fzL 1 (cInt .u8) v1.f2]), (5, .pc 0 0), (7, .tv (ownL 1 22 (cSl 1 (cInt .u8)) v22)), (9, .tv (.int .i64 v32.1)), (94, .tv (.bool v33))], [.cells 65 [.str v23, .int .i64 v24, fzL 1 (cInt .u8) v25, .int .i64 v26, .bool v27]]⟩ ?_ (Nat.zero_le _) trivial ?_
              · kernel_rfl
              obtain ⟨v34, hc9, h⟩ := of_bind h
              refine AOps.cut [9, 10, 11, 12, 13] [14, 15, 16, 17, 18] (fun σ => σ = ⟨[(2, .rp [.str v1.f0, .int .i64 v1.f1, fzL 1 (cInt .u8) v1.f2]), (5, .pc 0 0), (7, .tv (ownL 1 22 (cSl 1 (cInt .u8)) v22)), (99, .tv (.bool v34))], [.cells 65 [.str v23, .int .i64 v24, fzL 1 (cInt .u8) v25, .int .i64 v26, .bool v27]]⟩) ?_ fun σ' hJ => ?_
              · refine AOps.split (fun b => ⟨[(2, .rp [.str v1.f0, .int .i64 v1.f1, fzL 1 (cInt .u8) v1.f2]), (5, .pc 0 0), (7, .tv (ownL 1 22 (cSl 1 (cInt .u8)) v22)), (9, .tv (.int .i64 v32.1)), (94, .tv (.bool b))], [.cells 65 [.str v23, .int .i64 v24, fzL 1 (cInt .u8) v25, .int .i64 v26, .bool v27]]⟩) _ (fun hb => ?_) fun hb => ?_
                · replace hc9 := of_true hc9 hb
                  refine AOps.go [9, 10, 11, 12, 13] [] [] [2, 5, 7, 99] 1 ⟨[(2, .rp [.str v1.f0, .int .i64 v1.f1, fzL 1 (cInt .u8) v1.f2]), (5, .pc 0 0), (7, .tv (ownL 1 22 (cSl 1 (cInt .u8)) v22)), (99, .tv (.bool true))], [.cells 65 [.str v23, .int .i64 v24, fzL 1 (cInt .u8) v25, .int .i64 v26, .bool v27]]⟩ ?_ (Nat.zero_le _) trivial ?_
                  · kernel_rfl
                  cases hc9
                  exact AOps.nil rfl
                · replace hc9 := of_false hc9 hb
                  refine AOps.go [9] [10, 11, 12, 13] [] [2, 5, 7, 9, 94, 95] 1 ⟨[(2, .rp [.str v1.f0, .int .i64 v1.f1, fzL 1 (cInt .u8) v1.f2]), (5, .pc 0 0), (7, .tv (ownL 1 22 (cSl 1 (cInt .u8)) v22)), (9, .tv (.int .i64 v32.1)), (94, .tv (.bool false)), (95, .pc 0 0)], [.cells 65 [.str v23, .int .i64 v24, fzL 1 (cInt .u8) v25, .int .i64 v26, .bool v27]]⟩ ?_ (Nat.zero_le _) trivial ?_
                  · kernel_rfl
                  obtain ⟨v35, hv35, hc9⟩ := of_bind hc9
                  refine AOps.cons (AOne.callR (F := (FF 211 0)) _ rfl rfl rfl _ rfl rfl _ _ rfl Try.call19 [] [.rp [.str v23, .int .i64 v24, fzL 1 (cInt .u8) v25, .int .i64 v26, .bool v27]] rfl trivial (f19_ok (T64.mk v23 v24 v25 v26 v27) hv35) (ind_of rfl) rfl) ?_
                  refine AOps.go [11, 12, 13] [] [] [2, 5, 7, 99] 1 ⟨[(2, .rp [.str v1.f0, .int .i64 v1.f1, fzL 1 (cInt .u8) v1.f2]), (5, .pc 0 0), (7, .tv (ownL 1 22 (cSl 1 (cInt .u8)) v22)), (99, .tv (.bool (v35 != v32.1)))], [.cells 65 [.str v23, .int .i64 v24, fzL 1 (cInt .u8) v25, .int .i64 v26, .bool v27]]⟩ ?_ (Nat.zero_le _) trivial ?_
                  · kernel_rfl
                  cases hc9
                  exact AOps.nil rfl
              subst hJ
              refine AOps.go [14] [15, 16, 17, 18] [] [2, 5, 7, 100] 1 ⟨[(2, .rp [.str v1.f0, .int .i64 v1.f1, fzL 1 (cInt .u8) v1.f2]), (5, .pc 0 0), (7, .tv (ownL 1 22 (cSl 1 (cInt .u8)) v22)), (100, .tv (.bool v34))], [.cells 65 [.str v23, .int .i64 v24, fzL 1 (cInt .u8) v25, .int .i64 v26, .bool v27]]⟩ ?_ (Nat.zero_le _) trivial ?_
              · kernel_rfl
              obtain ⟨⟨v36, v37, v38, v39, v40, v41⟩, hc15, h⟩ := of_bind h
              refine AOps.cut [15, 16, 17, 18] [] (fun σ => σ = ⟨[(2, .rp [.str v1.f0, .int .i64 v1.f1, fzL 1 (cInt .u8) v1.f2]), (5, .pc 0 0), (7, .tv (ownL 1 22 (cSl 1 (cInt .u8)) v22)), (104, .tv (.bool v36))], [.cells 65 [.str v37, .int .i64 v38, fzL 1 (cInt .u8) v39, .int .i64 v40, .bool v41]]⟩) ?_ fun σ' hJ => ?_
              · refine AOps.split (fun b => ⟨[(2, .rp [.str v1.f0, .int .i64 v1.f1, fzL 1 (cInt .u8) v1.f2]), (5, .pc 0 0), (7, .tv (ownL 1 22 (cSl 1 (cInt .u8)) v22)), (100, .tv (.bool b))], [.cells 65 [.str v23, .int .i64 v24, fzL 1 (cInt .u8) v25, .int .i64 v26, .bool v27]]⟩) _ (fun hb => ?_) fun hb => ?_
                · replace hc15 := of_true hc15 hb
                  refine AOps.go [15, 16, 17, 18] [] [] [2, 5, 7, 104] 1 ⟨[(2, .rp [.str v1.f0, .int .i64 v1.f1, fzL 1 (cInt .u8) v1.f2]), (5, .pc 0 0), (7, .tv (ownL 1 22 (cSl 1 (cInt .u8)) v22)), (104, .tv (.bool true))], [.cells 65 [.str v23, .int .i64 v24, fzL 1 (cInt .u8) v25, .int .i64 v26, .bool v27]]⟩ ?_ (Nat.zero_le _) trivial ?_
                  · kernel_rfl
                  cases hc15
                  exact AOps.nil rfl
                · replace hc15 := of_false hc15 hb
                  refine AOps.go [15] [16, 17, 18] [] [2, 5, 7, 100, 101] 1 ⟨[(2, .rp [.str v1.f0, .int .i64 v1.f1, fzL 1 (cInt .u8) v1.f2]), (5, .pc 0 0), (7, .tv (ownL 1 22 (cSl 1 (cInt .u8)) v22)), (100, .tv (.bool false)), (101, .pc 0 0)], [.cells 65 [.str v23, .int .i64 v24, fzL 1 (cInt .u8) v25, .int .i64 v26, .bool v27]]⟩ ?_ (Nat.zero_le _) trivial ?_
                  · kernel_rfl
                  obtain ⟨v42, hv42, hc15⟩ := of_bind hc15
                  refine AOps.cons (AOne.callO (F := (FF 211 0)) _ rfl rfl rfl 102 rfl rfl 20 [] rfl Try.call20 [0] (by decide) [.pc 0 0] (by kernel_rfl) [.cells 65 [.str v23, .int .i64 v24, fzL 1 (cInt .u8) v25, .int .i64 v26, .bool v27]] (by kernel_rfl) (f20o_ok (T64.mk v23 v24 v25 v26 v27) hv42) (by kernel_rfl) (by kernel_rfl) _ rfl) ?_
                  refine AOps.go [17, 18] [] [] [2, 5, 7, 104] 1 ⟨[(2, .rp [.str v1.f0, .int .i64 v1.f1, fzL 1 (cInt .u8) v1.f2]), (5, .pc 0 0), (7, .tv (ownL 1 22 (cSl 1 (cInt .u8)) v22)), (104, .tv (.bool (v42.1 != (0 : Int))))], [.cells 65 [.str v42.2.f0, .int .i64 v42.2.f1, fzL 1 (cInt .u8) v42.2.f2, .int .i64 v42.2.f3, .bool v42.2.f4]]⟩ ?_ (Nat.zero_le _) trivial ?_
                  · kernel_rfl
                  cases hc15
                  exact AOps.nil rfl
              subst hJ
              refine AOps.nil ?_
              refine AWp.cond rfl (fun hb => ?_) fun hb => ?_
              · replace h := of_true h hb
                refine AWp.keepTo [] 0 ⟨[], []⟩ ?_ (Nat.zero_le _) ?_
                · kernel_rfl
                refine AWp.seq ?_
                refine AWp.start [0] [] [] [4] 0 ⟨[(4, .tv (.bool false))], []⟩ rfl ?_ (Nat.zero_le _) trivial ?_
                · kernel_rfl
                refine AOps.nil ?_
                refine AWp.ret ?_
                cases h
                exact ⟨.inr rfl, rfl⟩
              · replace h := of_false h hb
                refine AWp.keepTo [2, 5, 7] 1 ⟨[(2, .rp [.str v1.f0, .int .i64 v1.f1, fzL 1 (cInt .u8) v1.f2]), (5, .pc 0 0), (7, .tv (ownL 1 22 (cSl 1 (cInt .u8)) v22))], [.cells 65 [.str v37, .int .i64 v38, fzL 1 (cInt .u8) v39, .int .i64 v40, .bool v41]]⟩ ?_ (Nat.zero_le _) ?_
                · kernel_rfl
                refine AWp.skip ?_
                refine AWp.seq ?_
                refine AWp.draw FFm _ (n := 10) rfl (ls := #[false, false, false, false, false, false, false, false, false, false]) rfl ?_ (fun _ h => h)
                refine AAny.go (by kernel_rfl) [0, 1, 2] (fuel' := 7) rfl [] #[true, true, true, false, false, false, false, false, false, false] [5, 7, 107, 108] 1 ⟨[(5, .pc 0 0), (7, .tv (ownL 1 22 (cSl 1 (cInt .u8)) v22)), (107, .tv (.str v1.f0)), (108, .pc 0 0)], [.cells 65 [.str v37, .int .i64 v38, fzL 1 (cInt .u8) v39, .int .i64 v40, .bool v41]]⟩ ?_ (Nat.zero_le _) trivial ?_
                · kernel_rfl
                obtain ⟨v43, hv43, h⟩ := of_bind h
                refine AAny.serial (i := 3) (fuel := 6) (by kernel_rfl) (AOne.callO (F := (FF 211 0)) _ rfl rfl rfl 109 rfl rfl 21 [] rfl Try.call21 [0] (by decide) [.pc 0 0] (by kernel_rfl) [.cells 65 [.str v37, .int .i64 v38, fzL 1 (cInt .u8) v39, .int .i64 v40, .bool v41]] (by kernel_rfl) (f21o_ok (T64.mk v37 v38 v39 v40 v41) hv43) (by kernel_rfl) (by kernel_rfl) _ rfl) ?_
                refine AAny.keepTo [5, 7, 107, 109] 1 ⟨[(5, .pc 0 0), (7, .tv (ownL 1 22 (cSl 1 (cInt .u8)) v22)), (107, .tv (.str v1.f0)), (109, .tv (ownL 1 5 (cInt .u8) v43))], [.cells 65 [.str v37, .int .i64 v38, fzL 1 (cInt .u8) v39, .int .i64 v40, .bool v41]]⟩ #[true, true, true, true, false, false, false, false, false, false] ?_ rfl (Nat.zero_le _) ?_
                · kernel_rfl
                refine AAny.freezeL 109 (cInt .u8) v43 rfl (fun _ => rfl) ?_
                obtain ⟨v44, hv44, h⟩ := of_bind h
                rcases v44 with ⟨(_ | v45), v46⟩
                · replace h : (cond (v46 != (0 : Int)) (some false) ((iter (fun _ => f4_b3 v22 v37 v38 v39 v40 v41) ()).bind fun y => match y with | .ret v48 => some v48 | .go _ => (f22o (T64.mk v37 v38 v39 v40 v41)).bind fun v49 => cond (v49.2.1 != (6 : Int)) (some false) ((f22o v49.2.2).bind fun v50 => (cond (v50.2.1 != (110 : Int)) (some (true, v50.2.2.f0, v50.2.2.f1, v50.2.2.f2, v50.2.2.f3, v50.2.2.f4)) ((f23o v50.2.2).bind fun v57 => some ((v57.1 != (0 : Int)), v57.2.f0, v57.2.f1, v57.2.f2, v57.2.f3, v57.2.f4))).bind fun (v51, v52, v53, v54, v55, v56) => cond v51 (some false) ((iter (fun s => f4_b4 v22 s.1 s.2.1 s.2.2.1 s.2.2.2.1 s.2.2.2.2.1 s.2.2.2.2.2) (w64 ((v22.length : Int) - (1 : Int)), v52, v53, v54, v55, v56)).bind fun y => match y with | .ret v78 => some v78 | .go (v64, v65, v66, v67, v68) => (f19 (T64.mk v64 v65 v66 v67 v68)).bind fun v79 => (cond (v79 == (0 : Int)) ((f9 ).bind fun v81 => some v81) (some false)).bind fun v80 => some v80)))) = some r := h
                  refine AAny.serial (i := 4) (fuel := 5) (by kernel_rfl) (AOne.callO (F := (FF 211 0)) _ rfl rfl rfl 110 rfl rfl 16 [] rfl Try.call16 [] (by decide) [.tv (.str v1.f0), .tv (.int .i64 (0 : Int)), .tv (fzL 1 (cInt .u8) v43)] (by kernel_rfl) [] (by kernel_rfl) (f16_ok v1.f0 (0 : Int) v43 hv44) (by kernel_rfl) (by kernel_rfl) _ rfl) ?_
                  refine AAny.keepTo [5, 7, 110] 1 ⟨[(5, .pc 0 0), (7, .tv (ownL 1 22 (cSl 1 (cInt .u8)) v22)), (110, .tup [.tv (.sc (.pointer none)), .tv (.int .i64 v46)])], [.cells 65 [.str v37, .int .i64 v38, fzL 1 (cInt .u8) v39, .int .i64 v40, .bool v41]]⟩ #[true, true, true, true, true, false, false, false, false, false] ?_ rfl (Nat.zero_le _) ?_
                  · kernel_rfl
                  refine AAny.go (by kernel_rfl) [5, 6, 7, 8, 9] (fuel' := 0) rfl [] #[true, true, true, true, true, true, true, true, true, true] [5, 7, 11, 12] 1 ⟨[(5, .pc 0 0), (7, .tv (ownL 1 22 (cSl 1 (cInt .u8)) v22)), (11, .tv (.sc (.pointer none))), (12, .tv (.int .i64 v46))], [.cells 65 [.str v37, .int .i64 v38, fzL 1 (cInt .u8) v39, .int .i64 v40, .bool v41]]⟩ ?_ (Nat.zero_le _) trivial ?_
                  · kernel_rfl
                  refine AAny.keepTo [5, 7, 11, 12] 1 ⟨[(5, .pc 0 0), (7, .tv (ownL 1 22 (cSl 1 (cInt .u8)) v22)), (11, .tv (.sc (.pointer none))), (12, .tv (.int .i64 v46))], [.cells 65 [.str v37, .int .i64 v38, fzL 1 (cInt .u8) v39, .int .i64 v40, .bool v41]]⟩ _ ?_ rfl (Nat.zero_le _) (AAny.done (by kernel_rfl) ?_)
                  · kernel_rfl
                  refine AWp.seq ?_
                  refine AWp.seq ?_
                  refine AWp.start [0, 1] [] [] [5, 7, 11, 114] 1 ⟨[(5, .pc 0 0), (7, .tv (ownL 1 22 (cSl 1 (cInt .u8)) v22)), (11, .tv (.sc (.pointer none))), (114, .tv (.bool (v46 != (0 : Int))))], [.cells 65 [.str v37, .int .i64 v38, fzL 1 (cInt .u8) v39, .int .i64 v40, .bool v41]]⟩ rfl ?_ (Nat.zero_le _) trivial ?_
                  · kernel_rfl
                  refine AOps.nil ?_
                  refine AWp.cond rfl (fun hb => ?_) fun hb => ?_
                  · replace h := of_true h hb
                    refine AWp.keepTo [] 0 ⟨[], []⟩ ?_ (Nat.zero_le _) ?_
                    · kernel_rfl
                    refine AWp.seq ?_
                    refine AWp.start [0] [] [] [4] 0 ⟨[(4, .tv (.bool false))], []⟩ rfl ?_ (Nat.zero_le _) trivial ?_
                    · kernel_rfl
                    refine AOps.nil ?_
                    refine AWp.ret ?_
                    cases h
                    exact ⟨.inr rfl, rfl⟩
                  · replace h := of_false h hb
                    refine AWp.keepTo [5, 7, 11] 1 ⟨[(5, .pc 0 0), (7, .tv (ownL 1 22 (cSl 1 (cInt .u8)) v22)), (11, .tv (.sc (.pointer none)))], [.cells 65 [.str v37, .int .i64 v38, fzL 1 (cInt .u8) v39, .int .i64 v40, .bool v41]]⟩ ?_ (Nat.zero_le _) ?_
                    · kernel_rfl
                    refine AWp.skip ?_
                    refine AWp.seq ?_
                    refine AWp.seq ?_
                    refine AWp.start [0] [] [] [5, 7, 11, 13] 1 ⟨[(5, .pc 0 0), (7, .tv (ownL 1 22 (cSl 1 (cInt .u8)) v22)), (11, .tv (.sc (.pointer none))), (13, .tv (.int .i64 (0 : Int)))], [.cells 65 [.str v37, .int .i64 v38, fzL 1 (cInt .u8) v39, .int .i64 v40, .bool v41]]⟩ rfl ?_ (Nat.zero_le _) trivial ?_
                    · kernel_rfl
                    refine AOps.nil ?_
                    refine AWp.block ?_
                    obtain ⟨y, hy, h⟩ := of_bind h
                    refine AWp.mono (AWp.loop (S := Unit) (Y := Out Bool Unit) (fun _ => ⟨[(5, .pc 0 0), (7, .tv (ownL 1 22 (cSl 1 (cInt .u8)) v22)), (11, .tv (.sc (.pointer none))), (13, .tv (.int .i64 (0 : Int)))], [.cells 65 [.str v37, .int .i64 v38, fzL 1 (cInt .u8) v39, .int .i64 v40, .bool v41]]⟩) (fun _ => f4_b3 v22 v37 v38 v39 v40 v41) (fun y e σ => match y with | .ret r => e = .ret ∧ σ = ⟨[(4, .tv (.bool r))], []⟩ | .go v => e = .exit 2 ∧ σ = ⟨[(5, .pc 0 0), (7, .tv (ownL 1 22 (cSl 1 (cInt .u8)) v22))], [.cells 65 [.str v37, .int .i64 v38, fzL 1 (cInt .u8) v39, .int .i64 v40, .bool v41]]⟩) ?_ hy) ?_
                    · rintro ⟨⟩ o h
                      refine AWp.seq ?_
                      refine AWp.seq ?_
                      refine AWp.start [0, 1, 2, 3] [] [] [5, 7, 11, 13, 118] 1 ⟨[(5, .pc 0 0), (7, .tv (ownL 1 22 (cSl 1 (cInt .u8)) v22)), (11, .tv (.sc (.pointer none))), (13, .tv (.int .i64 (0 : Int))), (118, .tv (.bool (decide ((0 : Int) < (v22.length : Int)))))], [.cells 65 [.str v37, .int .i64 v38, fzL 1 (cInt .u8) v39, .int .i64 v40, .bool v41]]⟩ rfl ?_ (Nat.zero_le _) trivial ?_
                      · kernel_rfl
                      refine AOps.nil ?_
                      refine AWp.cond rfl (fun hb => ?_) fun hb => ?_
                      · replace h := of_true h hb
                        refine AWp.keepTo [5, 7, 11, 13] 1 ⟨[(5, .pc 0 0), (7, .tv (ownL 1 22 (cSl 1 (cInt .u8)) v22)), (11, .tv (.sc (.pointer none))), (13, .tv (.int .i64 (0 : Int)))], [.cells 65 [.str v37, .int .i64 v38, fzL 1 (cInt .u8) v39, .int .i64 v40, .bool v41]]⟩ ?_ (Nat.zero_le _) ?_
                        · kernel_rfl
                        refine AWp.skip ?_
                        refine AWp.seq ?_
                        refine AWp.block ?_
                        refine AWp.seq ?_
                        refine AWp.start [0] [1, 2, 3, 4, 5, 6] [] [5, 7, 11, 13, 122] 1 ⟨[(5, .pc 0 0), (7, .tv (ownL 1 22 (cSl 1 (cInt .u8)) v22)), (11, .tv (.sc (.pointer none))), (13, .tv (.int .i64 (0 : Int))), (122, .pc 0 0)], [.cells 65 [.str v37, .int .i64 v38, fzL 1 (cInt .u8) v39, .int .i64 v40, .bool v41]]⟩ rfl ?_ (Nat.zero_le _) trivial ?_
                        · kernel_rfl
                        obtain ⟨v47, hv47, h⟩ := of_bind h
                        refine AOps.cons (AOne.callO (F := (FF 211 0)) _ rfl rfl rfl 123 rfl rfl 22 [] rfl Try.call22 [0] (by decide) [.pc 0 0] (by kernel_rfl) [.cells 65 [.str v37, .int .i64 v38, fzL 1 (cInt .u8) v39, .int .i64 v40, .bool v41]] (by kernel_rfl) (f22o_ok (T64.mk v37 v38 v39 v40 v41) hv47) (by kernel_rfl) (by kernel_rfl) _ rfl) ?_
                        refine AOps.go [2, 3, 4, 5, 6] [] [] [5, 7, 11, 13, 14, 15] 1 ⟨[(5, .pc 0 0), (7, .tv (ownL 1 22 (cSl 1 (cInt .u8)) v22)), (11, .tv (.sc (.pointer none))), (13, .tv (.int .i64 (0 : Int))), (14, .tv (fzL 1 (cInt .u8) v47.1)), (15, .tv (.int .i64 v47.2.1))], [.cells 65 [.str v47.2.2.f0, .int .i64 v47.2.2.f1, fzL 1 (cInt .u8) v47.2.2.f2, .int .i64 v47.2.2.f3, .bool v47.2.2.f4]]⟩ ?_ (Nat.zero_le _) trivial ?_
                        · kernel_rfl
                        refine AOps.nil ?_
                        refine AWp.seq ?_
                        cases h
                      · replace h := of_false h hb
                        refine AWp.keepTo [5, 7] 1 ⟨[(5, .pc 0 0), (7, .tv (ownL 1 22 (cSl 1 (cInt .u8)) v22))], [.cells 65 [.str v37, .int .i64 v38, fzL 1 (cInt .u8) v39, .int .i64 v40, .bool v41]]⟩ ?_ (Nat.zero_le _) ?_
                        · kernel_rfl
                        refine AWp.exit ?_
                        cases h
                        exact Or.inr ⟨_, rfl, by simp, rfl, rfl⟩
                    · intro e σ hp
                      rcases y with v48 | _
                      · obtain ⟨rfl, rfl⟩ := hp
                        cases h
                        exact ⟨.inr rfl, rfl⟩
                      · obtain ⟨rfl, rfl⟩ := hp
                        refine AWp.seq ?_
                        refine AWp.seq ?_
                        refine AWp.start [0] [1, 2, 3, 4, 5, 6] [] [5, 7, 155] 1 ⟨[(5, .pc 0 0), (7, .tv (ownL 1 22 (cSl 1 (cInt .u8)) v22)), (155, .pc 0 0)], [.cells 65 [.str v37, .int .i64 v38, fzL 1 (cInt .u8) v39, .int .i64 v40, .bool v41]]⟩ rfl ?_ (Nat.zero_le _) trivial ?_
                        · kernel_rfl
                        obtain ⟨v49, hv49, h⟩ := of_bind h
                        refine AOps.cons (AOne.callO (F := (FF 211 0)) _ rfl rfl rfl 156 rfl rfl 22 [] rfl Try.call22 [0] (by decide) [.pc 0 0] (by kernel_rfl) [.cells 65 [.str v37, .int .i64 v38, fzL 1 (cInt .u8) v39, .int .i64 v40, .bool v41]] (by kernel_rfl) (f22o_ok (T64.mk v37 v38 v39 v40 v41) hv49) (by kernel_rfl) (by kernel_rfl) _ rfl) ?_
                        refine AOps.go [2, 3, 4, 5, 6] [] [] [5, 7, 19] 1 ⟨[(5, .pc 0 0), (7, .tv (ownL 1 22 (cSl 1 (cInt .u8)) v22)), (19, .tv (.int .i64 v49.2.1))], [.cells 65 [.str v49.2.2.f0, .int .i64 v49.2.2.f1, fzL 1 (cInt .u8) v49.2.2.f2, .int .i64 v49.2.2.f3, .bool v49.2.2.f4]]⟩ ?_ (Nat.zero_le _) trivial ?_
                        · kernel_rfl
                        refine AOps.nil ?_
                        refine AWp.seq ?_
                        refine AWp.start [0, 1] [] [] [5, 7, 160] 1 ⟨[(5, .pc 0 0), (7, .tv (ownL 1 22 (cSl 1 (cInt .u8)) v22)), (160, .tv (.bool (v49.2.1 != (6 : Int))))], [.cells 65 [.str v49.2.2.f0, .int .i64 v49.2.2.f1, fzL 1 (cInt .u8) v49.2.2.f2, .int .i64 v49.2.2.f3, .bool v49.2.2.f4]]⟩ rfl ?_ (Nat.zero_le _) trivial ?_
                        · kernel_rfl
                        refine AOps.nil ?_
                        refine AWp.cond rfl (fun hb => ?_) fun hb => ?_
                        · replace h := of_true h hb
                          refine AWp.keepTo [] 0 ⟨[], []⟩ ?_ (Nat.zero_le _) ?_
                          · kernel_rfl
                          refine AWp.seq ?_
                          refine AWp.start [0] [] [] [4] 0 ⟨[(4, .tv (.bool false))], []⟩ rfl ?_ (Nat.zero_le _) trivial ?_
                          · kernel_rfl
                          refine AOps.nil ?_
                          refine AWp.ret ?_
                          cases h
                          exact ⟨.inr rfl, rfl⟩
                        · replace h := of_false h hb
                          refine AWp.keepTo [5, 7] 1 ⟨[(5, .pc 0 0), (7, .tv (ownL 1 22 (cSl 1 (cInt .u8)) v22))], [.cells 65 [.str v49.2.2.f0, .int .i64 v49.2.2.f1, fzL 1 (cInt .u8) v49.2.2.f2, .int .i64 v49.2.2.f3, .bool v49.2.2.f4]]⟩ ?_ (Nat.zero_le _) ?_
                          · kernel_rfl
                          refine AWp.skip ?_
                          refine AWp.seq ?_
                          refine AWp.seq ?_
                          refine AWp.start [0] [1, 2, 3, 4, 5, 6] [] [5, 7, 162] 1 ⟨[(5, .pc 0 0), (7, .tv (ownL 1 22 (cSl 1 (cInt .u8)) v22)), (162, .pc 0 0)], [.cells 65 [.str v49.2.2.f0, .int .i64 v49.2.2.f1, fzL 1 (cInt .u8) v49.2.2.f2, .int .i64 v49.2.2.f3, .bool v49.2.2.f4]]⟩ rfl ?_ (Nat.zero_le _) trivial ?_
                          · kernel_rfl
                          obtain ⟨v50, hv50, h⟩ := of_bind h
                          refine AOps.cons (AOne.callO (F := (FF 211 0)) _ rfl rfl rfl 163 rfl rfl 22 [] rfl Try.call22 [0] (by decide) [.pc 0 0] (by kernel_rfl) [.cells 65 [.str v49.2.2.f0, .int .i64 v49.2.2.f1, fzL 1 (cInt .u8) v49.2.2.f2, .int .i64 v49.2.2.f3, .bool v49.2.2.f4]] (by kernel_rfl) (f22o_ok v49.2.2 hv50) (by kernel_rfl) (by kernel_rfl) _ rfl) ?_
                          refine AOps.go [2, 3, 4, 5, 6] [] [] [5, 7, 21] 1 ⟨[(5, .pc 0 0), (7, .tv (ownL 1 22 (cSl 1 (cInt .u8)) v22)), (21, .tv (.int .i64 v50.2.1))], [.cells 65 [.str v50.2.2.f0, .int .i64 v50.2.2.f1, fzL 1 (cInt .u8) v50.2.2.f2, .int .i64 v50.2.2.f3, .bool v50.2.2.f4]]⟩ ?_ (Nat.zero_le _) trivial ?_
                          · kernel_rfl
                          refine AOps.nil ?_
                          refine AWp.seq ?_
                          refine AWp.start [0, 1, 2] [3, 4, 5, 6] [] [5, 7, 168] 1 ⟨[(5, .pc 0 0), (7, .tv (ownL 1 22 (cSl 1 (cInt .u8)) v22)), (168, .tv (.bool (v50.2.1 != (110 : Int))))], [.cells 65 [.str v50.2.2.f0, .int .i64 v50.2.2.f1, fzL 1 (cInt .u8) v50.2.2.f2, .int .i64 v50.2.2.f3, .bool v50.2.2.f4]]⟩ rfl ?_ (Nat.zero_le _) trivial ?_
                          · kernel_rfl
                          obtain ⟨⟨v51, v52, v53, v54, v55, v56⟩, hc3, h⟩ := of_bind h
                          refine AOps.cut [3, 4, 5, 6] [] (fun σ => σ = ⟨[(5, .pc 0 0), (7, .tv (ownL 1 22 (cSl 1 (cInt .u8)) v22)), (172, .tv (.bool v51))], [.cells 65 [.str v52, .int .i64 v53, fzL 1 (cInt .u8) v54, .int .i64 v55, .bool v56]]⟩) ?_ fun σ' hJ => ?_
                          · refine AOps.split (fun b => ⟨[(5, .pc 0 0), (7, .tv (ownL 1 22 (cSl 1 (cInt .u8)) v22)), (168, .tv (.bool b))], [.cells 65 [.str v50.2.2.f0, .int .i64 v50.2.2.f1, fzL 1 (cInt .u8) v50.2.2.f2, .int .i64 v50.2.2.f3, .bool v50.2.2.f4]]⟩) _ (fun hb => ?_) fun hb => ?_
                            · replace hc3 := of_true hc3 hb
                              refine AOps.go [3, 4, 5, 6] [] [] [5, 7, 172] 1 ⟨[(5, .pc 0 0), (7, .tv (ownL 1 22 (cSl 1 (cInt .u8)) v22)), (172, .tv (.bool true))], [.cells 65 [.str v50.2.2.f0, .int .i64 v50.2.2.f1, fzL 1 (cInt .u8) v50.2.2.f2, .int .i64 v50.2.2.f3, .bool v50.2.2.f4]]⟩ ?_ (Nat.zero_le _) trivial ?_
                              · kernel_rfl
                              cases hc3
                              exact AOps.nil rfl
                            · replace hc3 := of_false hc3 hb
                              refine AOps.go [3] [4, 5, 6] [] [5, 7, 168, 169] 1 ⟨[(5, .pc 0 0), (7, .tv (ownL 1 22 (cSl 1 (cInt .u8)) v22)), (168, .tv (.bool false)), (169, .pc 0 0)], [.cells 65 [.str v50.2.2.f0, .int .i64 v50.2.2.f1, fzL 1 (cInt .u8) v50.2.2.f2, .int .i64 v50.2.2.f3, .bool v50.2.2.f4]]⟩ ?_ (Nat.zero_le _) trivial ?_
                              · kernel_rfl
                              obtain ⟨v57, hv57, hc3⟩ := of_bind hc3
                              refine AOps.cons (AOne.callO (F := (FF 211 0)) _ rfl rfl rfl 170 rfl rfl 23 [] rfl Try.call23 [0] (by decide) [.pc 0 0] (by kernel_rfl) [.cells 65 [.str v50.2.2.f0, .int .i64 v50.2.2.f1, fzL 1 (cInt .u8) v50.2.2.f2, .int .i64 v50.2.2.f3, .bool v50.2.2.f4]] (by kernel_rfl) (f23o_ok v50.2.2 hv57) (by kernel_rfl) (by kernel_rfl) _ rfl) ?_
                              refine AOps.go [5, 6] [] [] [5, 7, 172] 1 ⟨[(5, .pc 0 0), (7, .tv (ownL 1 22 (cSl 1 (cInt .u8)) v22)), (172, .tv (.bool (v57.1 != (0 : Int))))], [.cells 65 [.str v57.2.f0, .int .i64 v57.2.f1, fzL 1 (cInt .u8) v57.2.f2, .int .i64 v57.2.f3, .bool v57.2.f4]]⟩ ?_ (Nat.zero_le _) trivial ?_
                              · kernel_rfl
                              cases hc3
                              exact AOps.nil rfl
                          subst hJ
                          refine AOps.nil ?_
                          refine AWp.cond rfl (fun hb => ?_) fun hb => ?_
                          · replace h := of_true h hb
                            refine AWp.keepTo [] 0 ⟨[], []⟩ ?_ (Nat.zero_le _) ?_
                            · kernel_rfl
                            refine AWp.seq ?_
                            refine AWp.start [0] [] [] [4] 0 ⟨[(4, .tv (.bool false))], []⟩ rfl ?_ (Nat.zero_le _) trivial ?_
                            · kernel_rfl
                            refine AOps.nil ?_
                            refine AWp.ret ?_
                            cases h
                            exact ⟨.inr rfl, rfl⟩
                          · replace h := of_false h hb
                            refine AWp.keepTo [5, 7] 1 ⟨[(5, .pc 0 0), (7, .tv (ownL 1 22 (cSl 1 (cInt .u8)) v22))], [.cells 65 [.str v52, .int .i64 v53, fzL 1 (cInt .u8) v54, .int .i64 v55, .bool v56]]⟩ ?_ (Nat.zero_le _) ?_
                            · kernel_rfl
                            refine AWp.skip ?_
                            refine AWp.seq ?_
                            refine AWp.seq ?_
                            refine AWp.start [0, 1, 2, 3] [] [] [5, 7, 22] 1 ⟨[(5, .pc 0 0), (7, .tv (ownL 1 22 (cSl 1 (cInt .u8)) v22)), (22, .tv (.int .i64 (w64 ((v22.length : Int) - (1 : Int)))))], [.cells 65 [.str v52, .int .i64 v53, fzL 1 (cInt .u8) v54, .int .i64 v55, .bool v56]]⟩ rfl ?_ (Nat.zero_le _) trivial ?_
                            · kernel_rfl
                            refine AOps.nil ?_
                            refine AWp.block ?_
                            obtain ⟨y, hy, h⟩ := of_bind h
                            refine AWp.mono (AWp.loop (S := Int × (List UInt8) × Int × (List Int) × Int × Bool) (Y := Out Bool ((List UInt8) × Int × (List Int) × Int × Bool)) (fun s => ⟨[(5, .pc 0 0), (7, .tv (ownL 1 22 (cSl 1 (cInt .u8)) v22)), (22, .tv (.int .i64 s.1))], [.cells 65 [.str s.2.1, .int .i64 s.2.2.1, fzL 1 (cInt .u8) s.2.2.2.1, .int .i64 s.2.2.2.2.1, .bool s.2.2.2.2.2]]⟩) (fun s => f4_b4 v22 s.1 s.2.1 s.2.2.1 s.2.2.2.1 s.2.2.2.2.1 s.2.2.2.2.2) (fun y e σ => match y with | .ret r => e = .ret ∧ σ = ⟨[(4, .tv (.bool r))], []⟩ | .go v => e = .exit 4 ∧ σ = ⟨[(5, .pc 0 0)], [.cells 65 [.str v.1, .int .i64 v.2.1, fzL 1 (cInt .u8) v.2.2.1, .int .i64 v.2.2.2.1, .bool v.2.2.2.2]]⟩) ?_ hy) ?_
                            · rintro ⟨v58, v59, v60, v61, v62, v63⟩ o h
                              refine AWp.seq ?_
                              refine AWp.seq ?_
                              refine AWp.start [0, 1] [] [] [5, 7, 22, 177] 1 ⟨[(5, .pc 0 0), (7, .tv (ownL 1 22 (cSl 1 (cInt .u8)) v22)), (22, .tv (.int .i64 v58)), (177, .tv (.bool (decide (v58 ≥ (0 : Int)))))], [.cells 65 [.str v59, .int .i64 v60, fzL 1 (cInt .u8) v61, .int .i64 v62, .bool v63]]⟩ rfl ?_ (Nat.zero_le _) trivial ?_
                              · kernel_rfl
                              refine AOps.nil ?_
                              refine AWp.cond rfl (fun hb => ?_) fun hb => ?_
                              · replace h := of_true h hb
                                refine AWp.keepTo [5, 7, 22] 1 ⟨[(5, .pc 0 0), (7, .tv (ownL 1 22 (cSl 1 (cInt .u8)) v22)), (22, .tv (.int .i64 v58))], [.cells 65 [.str v59, .int .i64 v60, fzL 1 (cInt .u8) v61, .int .i64 v62, .bool v63]]⟩ ?_ (Nat.zero_le _) ?_
                                · kernel_rfl
                                refine AWp.skip ?_
                                refine AWp.seq ?_
                                refine AWp.block ?_
                                refine AWp.seq ?_
                                refine AWp.seq ?_
                                refine AWp.start [0] [1, 2] [] [5, 7, 22, 180] 1 ⟨[(5, .pc 0 0), (7, .tv (ownL 1 22 (cSl 1 (cInt .u8)) v22)), (22, .tv (.int .i64 v58)), (180, .pc 0 0)], [.cells 65 [.str v59, .int .i64 v60, fzL 1 (cInt .u8) v61, .int .i64 v62, .bool v63]]⟩ rfl ?_ (Nat.zero_le _) trivial ?_
                                · kernel_rfl
                                obtain ⟨v69, hv69, h⟩ := of_bind h
                                refine AOps.cons (AOne.callO (F := (FF 211 0)) _ rfl rfl rfl 181 rfl rfl 23 [] rfl Try.call23 [0] (by decide) [.pc 0 0] (by kernel_rfl) [.cells 65 [.str v59, .int .i64 v60, fzL 1 (cInt .u8) v61, .int .i64 v62, .bool v63]] (by kernel_rfl) (f23o_ok (T64.mk v59 v60 v61 v62 v63) hv69) (by kernel_rfl) (by kernel_rfl) _ rfl) ?_
                                refine AOps.go [2] [] [] [5, 7, 22, 182] 1 ⟨[(5, .pc 0 0), (7, .tv (ownL 1 22 (cSl 1 (cInt .u8)) v22)), (22, .tv (.int .i64 v58)), (182, .tv (.bool (v69.1 != (0 : Int))))], [.cells 65 [.str v69.2.f0, .int .i64 v69.2.f1, fzL 1 (cInt .u8) v69.2.f2, .int .i64 v69.2.f3, .bool v69.2.f4]]⟩ ?_ (Nat.zero_le _) trivial ?_
                                · kernel_rfl
                                refine AOps.nil ?_
                                refine AWp.cond rfl (fun hb => ?_) fun hb => ?_
                                · replace h := of_true h hb
                                  refine AWp.keepTo [] 0 ⟨[], []⟩ ?_ (Nat.zero_le _) ?_
                                  · kernel_rfl
                                  refine AWp.seq ?_
                                  refine AWp.start [0] [] [] [4] 0 ⟨[(4, .tv (.bool false))], []⟩ rfl ?_ (Nat.zero_le _) trivial ?_
                                  · kernel_rfl
                                  refine AOps.nil ?_
                                  refine AWp.ret ?_
                                  cases h
                                  exact Or.inr ⟨_, rfl, by simp, rfl, rfl⟩
                                · replace h := of_false h hb
                                  refine AWp.keepTo [5, 7, 22] 1 ⟨[(5, .pc 0 0), (7, .tv (ownL 1 22 (cSl 1 (cInt .u8)) v22)), (22, .tv (.int .i64 v58))], [.cells 65 [.str v69.2.f0, .int .i64 v69.2.f1, fzL 1 (cInt .u8) v69.2.f2, .int .i64 v69.2.f3, .bool v69.2.f4]]⟩ ?_ (Nat.zero_le _) ?_
                                  · kernel_rfl
                                  refine AWp.skip ?_
                                  refine AWp.seq ?_
                                  refine AWp.start [0] [1, 2, 3, 4, 5, 6] [] [5, 7, 22, 184] 1 ⟨[(5, .pc 0 0), (7, .tv (ownL 1 22 (cSl 1 (cInt .u8)) v22)), (22, .tv (.int .i64 v58)), (184, .pc 0 0)], [.cells 65 [.str v69.2.f0, .int .i64 v69.2.f1, fzL 1 (cInt .u8) v69.2.f2, .int .i64 v69.2.f3, .bool v69.2.f4]]⟩ rfl ?_ (Nat.zero_le _) trivial ?_
                                  · kernel_rfl
                                  obtain ⟨v70, hv70, h⟩ := of_bind h
                                  refine AOps.cons (AOne.callO (F := (FF 211 0)) _ rfl rfl rfl 185 rfl rfl 22 [] rfl Try.call22 [0] (by decide) [.pc 0 0] (by kernel_rfl) [.cells 65 [.str v69.2.f0, .int .i64 v69.2.f1, fzL 1 (cInt .u8) v69.2.f2, .int .i64 v69.2.f3, .bool v69.2.f4]] (by kernel_rfl) (f22o_ok v69.2 hv70) (by kernel_rfl) (by kernel_rfl) _ rfl) ?_
                                  refine AOps.go [2, 3, 4, 5, 6] [] [] [5, 7, 22, 23, 24] 1 ⟨[(5, .pc 0 0), (7, .tv (ownL 1 22 (cSl 1 (cInt .u8)) v22)), (22, .tv (.int .i64 v58)), (23, .tv (fzL 1 (cInt .u8) v70.1)), (24, .tv (.int .i64 v70.2.1))], [.cells 65 [.str v70.2.2.f0, .int .i64 v70.2.2.f1, fzL 1 (cInt .u8) v70.2.2.f2, .int .i64 v70.2.2.f3, .bool v70.2.2.f4]]⟩ ?_ (Nat.zero_le _) trivial ?_
                                  · kernel_rfl
                                  refine AOps.nil ?_
                                  refine AWp.seq ?_
                                  obtain ⟨⟨v71, v72, v73, v74, v75, v76⟩, hd, h⟩ := of_bind h
                                  refine AWp.draw FFm (fun σ => σ = ⟨[(5, .pc 0 0), (7, .tv (ownL 1 22 (cSl 1 (cInt .u8)) v22)), (22, .tv (.int .i64 v58)), (204, .tv (.bool v71))], [.cells 65 [.str v72, .int .i64 v73, fzL 1 (cInt .u8) v74, .int .i64 v75, .bool v76]]⟩) (n := 17) rfl (ls := #[false, false, false, false, false, false, false, false, false, false, false, false, false, false, false, false, false]) rfl ?_ ?_
                                  · refine AAny.go (by kernel_rfl) [0, 1, 2] (fuel' := 14) rfl [] #[true, true, true, false, false, false, false, false, false, false, false, false, false, false, false, false, false] [5, 7, 22, 23, 190] 1 ⟨[(5, .pc 0 0), (7, .tv (ownL 1 22 (cSl 1 (cInt .u8)) v22)), (22, .tv (.int .i64 v58)), (23, .tv (fzL 1 (cInt .u8) v70.1)), (190, .tv (.bool (v70.2.1 != (0 : Int))))], [.cells 65 [.str v70.2.2.f0, .int .i64 v70.2.2.f1, fzL 1 (cInt .u8) v70.2.2.f2, .int .i64 v70.2.2.f3, .bool v70.2.2.f4]]⟩ ?_ (Nat.zero_le _) trivial ?_
                                    · kernel_rfl
                                    refine AAny.split (fun b => ⟨[(5, .pc 0 0), (7, .tv (ownL 1 22 (cSl 1 (cInt .u8)) v22)), (22, .tv (.int .i64 v58)), (23, .tv (fzL 1 (cInt .u8) v70.1)), (190, .tv (.bool b))], [.cells 65 [.str v70.2.2.f0, .int .i64 v70.2.2.f1, fzL 1 (cInt .u8) v70.2.2.f2, .int .i64 v70.2.2.f3, .bool v70.2.2.f4]]⟩) _ (fun hb => ?_) fun hb => ?_
                                    · replace hd := of_true hd hb
                                      refine AAny.go (by kernel_rfl) [3, 4, 5, 6, 7, 8, 9, 10, 11, 12, 13, 14, 15, 16] (fuel' := 0) rfl [] #[true, true, true, true, true, true, true, true, true, true, true, true, true, true, true, true, true] [5, 7, 22, 204] 1 ⟨[(5, .pc 0 0), (7, .tv (ownL 1 22 (cSl 1 (cInt .u8)) v22)), (22, .tv (.int .i64 v58)), (204, .tv (.bool true))], [.cells 65 [.str v70.2.2.f0, .int .i64 v70.2.2.f1, fzL 1 (cInt .u8) v70.2.2.f2, .int .i64 v70.2.2.f3, .bool v70.2.2.f4]]⟩ ?_ (Nat.zero_le _) trivial ?_
                                      · kernel_rfl
                                      refine AAny.keepTo [5, 7, 22, 204] 1 ⟨[(5, .pc 0 0), (7, .tv (ownL 1 22 (cSl 1 (cInt .u8)) v22)), (22, .tv (.int .i64 v58)), (204, .tv (.bool true))], [.cells 65 [.str v70.2.2.f0, .int .i64 v70.2.2.f1, fzL 1 (cInt .u8) v70.2.2.f2, .int .i64 v70.2.2.f3, .bool v70.2.2.f4]]⟩ _ ?_ rfl (Nat.zero_le _) (AAny.done (by kernel_rfl) ?_)
                                      · kernel_rfl
                                      cases hd
                                      exact rfl
                                    · replace hd := of_false hd hb
                                      refine AAny.go (by kernel_rfl) [3] (fuel' := 13) rfl [] #[true, true, true, true, false, false, false, false, false, false, false, false, false, false, false, false, false] [5, 7, 22, 190, 191] 1 ⟨[(5, .pc 0 0), (7, .tv (ownL 1 22 (cSl 1 (cInt .u8)) v22)), (22, .tv (.int .i64 v58)), (190, .tv (.bool false)), (191, .tv (fzL 1 (cInt .u8) v70.1))], [.cells 65 [.str v70.2.2.f0, .int .i64 v70.2.2.f1, fzL 1 (cInt .u8) v70.2.2.f2, .int .i64 v70.2.2.f3, .bool v70.2.2.f4]]⟩ ?_ (Nat.zero_le _) trivial ?_
                                      · kernel_rfl
                                      refine AAny.takeStr (F := (FF 211 0)) (i := 4) (fuel' := 12) (by kernel_rfl) rfl (by kernel_rfl) (by kernel_rfl) #[true, true, true, true, true, false, false, false, false, false, false, false, false, false, false, false, false] rfl _ rfl rfl rfl _ rfl rfl rfl rfl rfl (n := v70.1.length) (f := (fun i => (cInt .u8) (v70.1.getD i default))) rfl v70.1 rfl (fun _ _ => rfl) ?_
                                      refine AAny.keepTo [5, 7, 22, 190, 192] 1 ⟨[(5, .pc 0 0), (7, .tv (ownL 1 22 (cSl 1 (cInt .u8)) v22)), (22, .tv (.int .i64 v58)), (190, .tv (.bool false)), (192, .tv (.str (v70.1.map (fun n => UInt8.ofNat n.toNat))))], [.cells 65 [.str v70.2.2.f0, .int .i64 v70.2.2.f1, fzL 1 (cInt .u8) v70.2.2.f2, .int .i64 v70.2.2.f3, .bool v70.2.2.f4]]⟩ #[true, true, true, true, true, false, false, false, false, false, false, false, false, false, false, false, false] ?_ rfl (Nat.zero_le _) ?_
                                      · kernel_rfl
                                      obtain ⟨hg, hd⟩ := of_guard hd
                                      refine AAny.go (by kernel_rfl) [5, 6, 7] (fuel' := 9) rfl [(0 : Int) ≤ v58, v58 < (v22.length : Int)] #[true, true, true, true, true, true, true, true, false, false, false, false, false, false, false, false, false] [5, 7, 22, 190, 192, 195] 1 ⟨[(5, .pc 0 0), (7, .tv (ownL 1 22 (cSl 1 (cInt .u8)) v22)), (22, .tv (.int .i64 v58)), (190, .tv (.bool false)), (192, .tv (.str (v70.1.map (fun n => UInt8.ofNat n.toNat)))), (195, .pe (.slot 7 0, []) v58.toNat 0 1)], [.cells 65 [.str v70.2.2.f0, .int .i64 v70.2.2.f1, fzL 1 (cInt .u8) v70.2.2.f2, .int .i64 v70.2.2.f3, .bool v70.2.2.f4]]⟩ ?_ (Nat.zero_le _) ⟨hg.1, hg.2⟩ ?_
                                      · kernel_rfl
                                      refine AAny.step (i := 8) (fuel' := 8) rfl (by kernel_rfl) [] #[true, true, true, true, true, true, true, true, true, false, false, false, false, false, false, false, false] rfl [5, 7, 22, 190, 192, 196] 1 ⟨[(5, .pc 0 0), (7, .tv (ownL 1 22 (cSl 1 (cInt .u8)) v22)), (22, .tv (.int .i64 v58)), (190, .tv (.bool false)), (192, .tv (.str (v70.1.map (fun n => UInt8.ofNat n.toNat)))), (196, .tv (fzL 1 (cInt .u8) (v22.getD v58.toNat default)))], [.cells 65 [.str v70.2.2.f0, .int .i64 v70.2.2.f1, fzL 1 (cInt .u8) v70.2.2.f2, .int .i64 v70.2.2.f3, .bool v70.2.2.f4]]⟩ ?_ (Nat.zero_le _) trivial ?_
                                      · kernel_rfl
                                      refine AAny.takeStr (F := (FF 211 0)) (i := 9) (fuel' := 7) (by kernel_rfl) rfl (by kernel_rfl) (by kernel_rfl) #[true, true, true, true, true, true, true, true, true, true, false, false, false, false, false, false, false] rfl _ rfl rfl rfl _ rfl rfl rfl rfl rfl (n := (v22.getD v58.toNat default).length) (f := (fun i => (cInt .u8) ((v22.getD v58.toNat default).getD i default))) rfl (v22.getD v58.toNat default) rfl (fun _ _ => rfl) ?_
                                      refine AAny.keepTo [5, 7, 22, 190, 192, 197] 1 ⟨[(5, .pc 0 0), (7, .tv (ownL 1 22 (cSl 1 (cInt .u8)) v22)), (22, .tv (.int .i64 v58)), (190, .tv (.bool false)), (192, .tv (.str (v70.1.map (fun n => UInt8.ofNat n.toNat)))), (197, .tv (.str ((v22.getD v58.toNat default).map (fun n => UInt8.ofNat n.toNat))))], [.cells 65 [.str v70.2.2.f0, .int .i64 v70.2.2.f1, fzL 1 (cInt .u8) v70.2.2.f2, .int .i64 v70.2.2.f3, .bool v70.2.2.f4]]⟩ #[true, true, true, true, true, true, true, true, true, true, false, false, false, false, false, false, false] ?_ rfl (Nat.zero_le _) ?_
                                      · kernel_rfl
                                      refine AAny.go (by kernel_rfl) [10, 11, 12] (fuel' := 4) rfl [] #[true, true, true, true, true, true, true, true, true, true, true, true, true, false, false, false, false] [5, 7, 22, 200] 1 ⟨[(5, .pc 0 0), (7, .tv (ownL 1 22 (cSl 1 (cInt .u8)) v22)), (22, .tv (.int .i64 v58)), (200, .tv (.bool (!((v70.1.map (fun n => UInt8.ofNat n.toNat)) == ((v22.getD v58.toNat default).map (fun n => UInt8.ofNat n.toNat))))))], [.cells 65 [.str v70.2.2.f0, .int .i64 v70.2.2.f1, fzL 1 (cInt .u8) v70.2.2.f2, .int .i64 v70.2.2.f3, .bool v70.2.2.f4]]⟩ ?_ (Nat.zero_le _) trivial ?_
                                      · kernel_rfl
                                      refine AAny.split (fun b => ⟨[(5, .pc 0 0), (7, .tv (ownL 1 22 (cSl 1 (cInt .u8)) v22)), (22, .tv (.int .i64 v58)), (200, .tv (.bool b))], [.cells 65 [.str v70.2.2.f0, .int .i64 v70.2.2.f1, fzL 1 (cInt .u8) v70.2.2.f2, .int .i64 v70.2.2.f3, .bool v70.2.2.f4]]⟩) _ (fun hb => ?_) fun hb => ?_
                                      · replace hd := of_true hd hb
                                        refine AAny.go (by kernel_rfl) [13, 14, 15, 16] (fuel' := 0) rfl [] #[true, true, true, true, true, true, true, true, true, true, true, true, true, true, true, true, true] [5, 7, 22, 204] 1 ⟨[(5, .pc 0 0), (7, .tv (ownL 1 22 (cSl 1 (cInt .u8)) v22)), (22, .tv (.int .i64 v58)), (204, .tv (.bool true))], [.cells 65 [.str v70.2.2.f0, .int .i64 v70.2.2.f1, fzL 1 (cInt .u8) v70.2.2.f2, .int .i64 v70.2.2.f3, .bool v70.2.2.f4]]⟩ ?_ (Nat.zero_le _) trivial ?_
                                        · kernel_rfl
                                        refine AAny.keepTo [5, 7, 22, 204] 1 ⟨[(5, .pc 0 0), (7, .tv (ownL 1 22 (cSl 1 (cInt .u8)) v22)), (22, .tv (.int .i64 v58)), (204, .tv (.bool true))], [.cells 65 [.str v70.2.2.f0, .int .i64 v70.2.2.f1, fzL 1 (cInt .u8) v70.2.2.f2, .int .i64 v70.2.2.f3, .bool v70.2.2.f4]]⟩ _ ?_ rfl (Nat.zero_le _) (AAny.done (by kernel_rfl) ?_)
                                        · kernel_rfl
                                        cases hd
                                        exact rfl
                                      · replace hd := of_false hd hb
                                        refine AAny.go (by kernel_rfl) [13] (fuel' := 3) rfl [] #[true, true, true, true, true, true, true, true, true, true, true, true, true, true, false, false, false] [5, 7, 22, 200, 201] 1 ⟨[(5, .pc 0 0), (7, .tv (ownL 1 22 (cSl 1 (cInt .u8)) v22)), (22, .tv (.int .i64 v58)), (200, .tv (.bool false)), (201, .pc 0 0)], [.cells 65 [.str v70.2.2.f0, .int .i64 v70.2.2.f1, fzL 1 (cInt .u8) v70.2.2.f2, .int .i64 v70.2.2.f3, .bool v70.2.2.f4]]⟩ ?_ (Nat.zero_le _) trivial ?_
                                        · kernel_rfl
                                        obtain ⟨v77, hv77, hd⟩ := of_bind hd
                                        refine AAny.serial (i := 14) (fuel := 2) (by kernel_rfl) (AOne.callO (F := (FF 211 0)) _ rfl rfl rfl 202 rfl rfl 23 [] rfl Try.call23 [0] (by decide) [.pc 0 0] (by kernel_rfl) [.cells 65 [.str v70.2.2.f0, .int .i64 v70.2.2.f1, fzL 1 (cInt .u8) v70.2.2.f2, .int .i64 v70.2.2.f3, .bool v70.2.2.f4]] (by kernel_rfl) (f23o_ok v70.2.2 hv77) (by kernel_rfl) (by kernel_rfl) _ rfl) ?_
                                        refine AAny.keepTo [5, 7, 22, 200, 202] 1 ⟨[(5, .pc 0 0), (7, .tv (ownL 1 22 (cSl 1 (cInt .u8)) v22)), (22, .tv (.int .i64 v58)), (200, .tv (.bool false)), (202, .tv (.int .i64 v77.1))], [.cells 65 [.str v77.2.f0, .int .i64 v77.2.f1, fzL 1 (cInt .u8) v77.2.f2, .int .i64 v77.2.f3, .bool v77.2.f4]]⟩ #[true, true, true, true, true, true, true, true, true, true, true, true, true, true, true, false, false] ?_ rfl (Nat.zero_le _) ?_
                                        · kernel_rfl
                                        refine AAny.go (by kernel_rfl) [15, 16] (fuel' := 0) rfl [] #[true, true, true, true, true, true, true, true, true, true, true, true, true, true, true, true, true] [5, 7, 22, 204] 1 ⟨[(5, .pc 0 0), (7, .tv (ownL 1 22 (cSl 1 (cInt .u8)) v22)), (22, .tv (.int .i64 v58)), (204, .tv (.bool (v77.1 != (0 : Int))))], [.cells 65 [.str v77.2.f0, .int .i64 v77.2.f1, fzL 1 (cInt .u8) v77.2.f2, .int .i64 v77.2.f3, .bool v77.2.f4]]⟩ ?_ (Nat.zero_le _) trivial ?_
                                        · kernel_rfl
                                        refine AAny.keepTo [5, 7, 22, 204] 1 ⟨[(5, .pc 0 0), (7, .tv (ownL 1 22 (cSl 1 (cInt .u8)) v22)), (22, .tv (.int .i64 v58)), (204, .tv (.bool (v77.1 != (0 : Int))))], [.cells 65 [.str v77.2.f0, .int .i64 v77.2.f1, fzL 1 (cInt .u8) v77.2.f2, .int .i64 v77.2.f3, .bool v77.2.f4]]⟩ _ ?_ rfl (Nat.zero_le _) (AAny.done (by kernel_rfl) ?_)
                                        · kernel_rfl
                                        cases hd
                                        exact rfl
                                  rintro σ' rfl
                                  refine AWp.cond rfl (fun hb => ?_) fun hb => ?_
                                  · replace h := of_true h hb
                                    refine AWp.keepTo [] 0 ⟨[], []⟩ ?_ (Nat.zero_le _) ?_
                                    · kernel_rfl
                                    refine AWp.seq ?_
                                    refine AWp.start [0] [] [] [4] 0 ⟨[(4, .tv (.bool false))], []⟩ rfl ?_ (Nat.zero_le _) trivial ?_
                                    · kernel_rfl
                                    refine AOps.nil ?_
                                    refine AWp.ret ?_
                                    cases h
                                    exact Or.inr ⟨_, rfl, by simp, rfl, rfl⟩
                                  · replace h := of_false h hb
                                    refine AWp.keepTo [5, 7, 22] 1 ⟨[(5, .pc 0 0), (7, .tv (ownL 1 22 (cSl 1 (cInt .u8)) v22)), (22, .tv (.int .i64 v58))], [.cells 65 [.str v72, .int .i64 v73, fzL 1 (cInt .u8) v74, .int .i64 v75, .bool v76]]⟩ ?_ (Nat.zero_le _) ?_
                                    · kernel_rfl
                                    refine AWp.skip ?_
                                    refine AWp.start [0, 1, 2] [] [] [5, 7, 22] 1 ⟨[(5, .pc 0 0), (7, .tv (ownL 1 22 (cSl 1 (cInt .u8)) v22)), (22, .tv (.int .i64 (w64 (v58 - (1 : Int)))))], [.cells 65 [.str v72, .int .i64 v73, fzL 1 (cInt .u8) v74, .int .i64 v75, .bool v76]]⟩ rfl ?_ (Nat.zero_le _) trivial ?_
                                    · kernel_rfl
                                    refine AOps.nil ?_
                                    cases h
                                    exact Or.inl ⟨_, rfl, rfl, rfl⟩
                              · replace h := of_false h hb
                                refine AWp.keepTo [5] 1 ⟨[(5, .pc 0 0)], [.cells 65 [.str v59, .int .i64 v60, fzL 1 (cInt .u8) v61, .int .i64 v62, .bool v63]]⟩ ?_ (Nat.zero_le _) ?_
                                · kernel_rfl
                                refine AWp.exit ?_
                                cases h
                                exact Or.inr ⟨_, rfl, by simp, rfl, rfl⟩
                            · intro e σ hp
                              rcases y with v78 | ⟨v64, v65, v66, v67, v68⟩
                              · obtain ⟨rfl, rfl⟩ := hp
                                cases h
                                exact ⟨.inr rfl, rfl⟩
                              · obtain ⟨rfl, rfl⟩ := hp
                                refine AWp.seq ?_
                                refine AWp.start [0] [1, 2, 3, 4, 5, 6] [] [205] 1 ⟨[(205, .pc 0 0)], [.cells 65 [.str v64, .int .i64 v65, fzL 1 (cInt .u8) v66, .int .i64 v67, .bool v68]]⟩ rfl ?_ (Nat.zero_le _) trivial ?_
                                · kernel_rfl
                                obtain ⟨v79, hv79, h⟩ := of_bind h
                                refine AOps.cons (AOne.callR (F := (FF 211 0)) _ rfl rfl rfl _ rfl rfl _ _ rfl Try.call19 [] [.rp [.str v64, .int .i64 v65, fzL 1 (cInt .u8) v66, .int .i64 v67, .bool v68]] rfl trivial (f19_ok (T64.mk v64 v65 v66 v67 v68) hv79) (ind_of rfl) rfl) ?_
                                refine AOps.go [2, 3] [4, 5, 6] [] [208] 0 ⟨[(208, .tv (.bool (v79 == (0 : Int))))], []⟩ ?_ (Nat.zero_le _) trivial ?_
                                · kernel_rfl
                                obtain ⟨v80, hc4, h⟩ := of_bind h
                                refine AOps.cut [4, 5] [6] (fun σ => σ = ⟨[(210, .tv (.bool v80))], []⟩) ?_ fun σ' hJ => ?_
                                · refine AOps.split (fun b => ⟨[(208, .tv (.bool b))], []⟩) _ (fun hb => ?_) fun hb => ?_
                                  · replace hc4 := of_true hc4 hb
                                    obtain ⟨v81, hv81, hc4⟩ := of_bind hc4
                                    refine AOps.cons (AOne.callP (F := (FF 211 0)) _ rfl rfl rfl _ rfl rfl _ _ rfl Try.call9 [] rfl rfl (f9_ok  hv81) rfl) ?_
                                    refine AOps.go [5] [] [] [210] 0 ⟨[(210, .tv (.bool v81))], []⟩ ?_ (Nat.zero_le _) trivial ?_
                                    · kernel_rfl
                                    cases hc4
                                    exact AOps.nil rfl
                                  · replace hc4 := of_false hc4 hb
                                    refine AOps.go [4, 5] [] [] [210] 0 ⟨[(210, .tv (.bool false))], []⟩ ?_ (Nat.zero_le _) trivial ?_
                                    · kernel_rfl
                                    cases hc4
                                    exact AOps.nil rfl
                                subst hJ
                                refine AOps.go [6] [] [] [4] 0 ⟨[(4, .tv (.bool v80))], []⟩ ?_ (Nat.zero_le _) trivial ?_
                                · kernel_rfl
                                refine AOps.nil ?_
                                refine AWp.ret ?_
                                cases h
                                exact ⟨.inr rfl, rfl⟩
                · replace h : (cond (v46 != (0 : Int)) (some false) ((iter (fun s => f4_b5 v22 s.1 s.2.1 s.2.2.1 s.2.2.2.1 s.2.2.2.2.1 s.2.2.2.2.2.1 s.2.2.2.2.2.2.1 s.2.2.2.2.2.2.2.1 s.2.2.2.2.2.2.2.2.1 s.2.2.2.2.2.2.2.2.2.1 s.2.2.2.2.2.2.2.2.2.2) ((0 : Int), v37, v38, v39, v40, v41, v45.f0, v45.f1, v45.f2, v45.f3, v45.f4)).bind fun y => match y with | .ret v101 => some v101 | .go (v93, v94, v95, v96, v97) => (f22o (T64.mk v93 v94 v95 v96 v97)).bind fun v102 => cond (v102.2.1 != (6 : Int)) (some false) ((f22o v102.2.2).bind fun v103 => (cond (v103.2.1 != (110 : Int)) (some (true, v103.2.2.f0, v103.2.2.f1, v103.2.2.f2, v103.2.2.f3, v103.2.2.f4)) ((f23o v103.2.2).bind fun v110 => some ((v110.1 != (0 : Int)), v110.2.f0, v110.2.f1, v110.2.f2, v110.2.f3, v110.2.f4))).bind fun (v104, v105, v106, v107, v108, v109) => cond v104 (some false) ((iter (fun s => f4_b6 v22 s.1 s.2.1 s.2.2.1 s.2.2.2.1 s.2.2.2.2.1 s.2.2.2.2.2) (w64 ((v22.length : Int) - (1 : Int)), v105, v106, v107, v108, v109)).bind fun y => match y with | .ret v131 => some v131 | .go (v117, v118, v119, v120, v121) => (f19 (T64.mk v117 v118 v119 v120 v121)).bind fun v132 => (cond (v132 == (0 : Int)) ((f9 ).bind fun v134 => some v134) (some false)).bind fun v133 => some v133)))) = some r := h
                  refine AAny.serial (i := 4) (fuel := 5) (by kernel_rfl) (AOne.callO (F := (FF 211 0)) _ rfl rfl rfl 110 rfl rfl 16 [] rfl Try.call16 [] (by decide) [.tv (.str v1.f0), .tv (.int .i64 (0 : Int)), .tv (fzL 1 (cInt .u8) v43)] (by kernel_rfl) [] (by kernel_rfl) (f16_ok v1.f0 (0 : Int) v43 hv44) (by kernel_rfl) (by kernel_rfl) _ rfl) ?_
                  refine AAny.keepTo [5, 7, 110] 2 ⟨[(5, .pc 0 0), (7, .tv (ownL 1 22 (cSl 1 (cInt .u8)) v22)), (110, .tup [.pc 1 0, .tv (.int .i64 v46)])], [.cells 65 [.str v37, .int .i64 v38, fzL 1 (cInt .u8) v39, .int .i64 v40, .bool v41], .cells 65 [.str v45.f0, .int .i64 v45.f1, fzL 1 (cInt .u8) v45.f2, .int .i64 v45.f3, .bool v45.f4]]⟩ #[true, true, true, true, true, false, false, false, false, false] ?_ rfl (Nat.zero_le _) ?_
                  · kernel_rfl
                  refine AAny.go (by kernel_rfl) [5, 6, 7, 8, 9] (fuel' := 0) rfl [] #[true, true, true, true, true, true, true, true, true, true] [5, 7, 11, 12] 2 ⟨[(5, .pc 0 0), (7, .tv (ownL 1 22 (cSl 1 (cInt .u8)) v22)), (11, .pc 1 0), (12, .tv (.int .i64 v46))], [.cells 65 [.str v37, .int .i64 v38, fzL 1 (cInt .u8) v39, .int .i64 v40, .bool v41], .cells 65 [.str v45.f0, .int .i64 v45.f1, fzL 1 (cInt .u8) v45.f2, .int .i64 v45.f3, .bool v45.f4]]⟩ ?_ (Nat.zero_le _) trivial ?_
                  · kernel_rfl
                  refine AAny.keepTo [5, 7, 11, 12] 2 ⟨[(5, .pc 0 0), (7, .tv (ownL 1 22 (cSl 1 (cInt .u8)) v22)), (11, .pc 1 0), (12, .tv (.int .i64 v46))], [.cells 65 [.str v37, .int .i64 v38, fzL 1 (cInt .u8) v39, .int .i64 v40, .bool v41], .cells 65 [.str v45.f0, .int .i64 v45.f1, fzL 1 (cInt .u8) v45.f2, .int .i64 v45.f3, .bool v45.f4]]⟩ _ ?_ rfl (Nat.zero_le _) (AAny.done (by kernel_rfl) ?_)
                  · kernel_rfl
                  refine AWp.seq ?_
                  refine AWp.seq ?_
                  refine AWp.start [0, 1] [] [] [5, 7, 11, 114] 2 ⟨[(5, .pc 0 0), (7, .tv (ownL 1 22 (cSl 1 (cInt .u8)) v22)), (11, .pc 1 0), (114, .tv (.bool (v46 != (0 : Int))))], [.cells 65 [.str v37, .int .i64 v38, fzL 1 (cInt .u8) v39, .int .i64 v40, .bool v41], .cells 65 [.str v45.f0, .int .i64 v45.f1, fzL 1 (cInt .u8) v45.f2, .int .i64 v45.f3, .bool v45.f4]]⟩ rfl ?_ (Nat.zero_le _) trivial ?_
                  · kernel_rfl
                  refine AOps.nil ?_
                  refine AWp.cond rfl (fun hb => ?_) fun hb => ?_
                  · replace h := of_true h hb
                    refine AWp.keepTo [] 0 ⟨[], []⟩ ?_ (Nat.zero_le _) ?_
                    · kernel_rfl
                    refine AWp.seq ?_
                    refine AWp.start [0] [] [] [4] 0 ⟨[(4, .tv (.bool false))], []⟩ rfl ?_ (Nat.zero_le _) trivial ?_
                    · kernel_rfl
                    refine AOps.nil ?_
                    refine AWp.ret ?_
                    cases h
                    exact ⟨.inr rfl, rfl⟩
                  · replace h := of_false h hb
                    refine AWp.keepTo [5, 7, 11] 2 ⟨[(5, .pc 0 0), (7, .tv (ownL 1 22 (cSl 1 (cInt .u8)) v22)), (11, .pc 1 0)], [.cells 65 [.str v37, .int .i64 v38, fzL 1 (cInt .u8) v39, .int .i64 v40, .bool v41], .cells 65 [.str v45.f0, .int .i64 v45.f1, fzL 1 (cInt .u8) v45.f2, .int .i64 v45.f3, .bool v45.f4]]⟩ ?_ (Nat.zero_le _) ?_
                    · kernel_rfl
                    refine AWp.skip ?_
                    refine AWp.seq ?_
                    refine AWp.seq ?_
                    refine AWp.start [0] [] [] [5, 7, 11, 13] 2 ⟨[(5, .pc 0 0), (7, .tv (ownL 1 22 (cSl 1 (cInt .u8)) v22)), (11, .pc 1 0), (13, .tv (.int .i64 (0 : Int)))], [.cells 65 [.str v37, .int .i64 v38, fzL 1 (cInt .u8) v39, .int .i64 v40, .bool v41], .cells 65 [.str v45.f0, .int .i64 v45.f1, fzL 1 (cInt .u8) v45.f2, .int .i64 v45.f3, .bool v45.f4]]⟩ rfl ?_ (Nat.zero_le _) trivial ?_
                    · kernel_rfl
                    refine AOps.nil ?_
                    refine AWp.block ?_
                    obtain ⟨y, hy, h⟩ := of_bind h
                    refine AWp.mono (AWp.loop (S := Int × (List UInt8) × Int × (List Int) × Int × Bool × (List UInt8) × Int × (List Int) × Int × Bool) (Y := Out Bool ((List UInt8) × Int × (List Int) × Int × Bool)) (fun s => ⟨[(5, .pc 0 0), (7, .tv (ownL 1 22 (cSl 1 (cInt .u8)) v22)), (11, .pc 1 0), (13, .tv (.int .i64 s.1))], [.cells 65 [.str s.2.1, .int .i64 s.2.2.1, fzL 1 (cInt .u8) s.2.2.2.1, .int .i64 s.2.2.2.2.1, .bool s.2.2.2.2.2.1], .cells 65 [.str s.2.2.2.2.2.2.1, .int .i64 s.2.2.2.2.2.2.2.1, fzL 1 (cInt .u8) s.2.2.2.2.2.2.2.2.1, .int .i64 s.2.2.2.2.2.2.2.2.2.1, .bool s.2.2.2.2.2.2.2.2.2.2]]⟩) (fun s => f4_b5 v22 s.1 s.2.1 s.2.2.1 s.2.2.2.1 s.2.2.2.2.1 s.2.2.2.2.2.1 s.2.2.2.2.2.2.1 s.2.2.2.2.2.2.2.1 s.2.2.2.2.2.2.2.2.1 s.2.2.2.2.2.2.2.2.2.1 s.2.2.2.2.2.2.2.2.2.2) (fun y e σ => match y with | .ret r => e = .ret ∧ σ = ⟨[(4, .tv (.bool r))], []⟩ | .go v => e = .exit 2 ∧ σ = ⟨[(5, .pc 0 0), (7, .tv (ownL 1 22 (cSl 1 (cInt .u8)) v22))], [.cells 65 [.str v.1, .int .i64 v.2.1, fzL 1 (cInt .u8) v.2.2.1, .int .i64 v.2.2.2.1, .bool v.2.2.2.2]]⟩) ?_ hy) ?_
                    · rintro ⟨v82, v83, v84, v85, v86, v87, v88, v89, v90, v91, v92⟩ o h
                      refine AWp.seq ?_
                      refine AWp.seq ?_
                      refine AWp.start [0, 1, 2, 3] [] [] [5, 7, 11, 13, 118] 2 ⟨[(5, .pc 0 0), (7, .tv (ownL 1 22 (cSl 1 (cInt .u8)) v22)), (11, .pc 1 0), (13, .tv (.int .i64 v82)), (118, .tv (.bool (decide (v82 < (v22.length : Int)))))], [.cells 65 [.str v83, .int .i64 v84, fzL 1 (cInt .u8) v85, .int .i64 v86, .bool v87], .cells 65 [.str v88, .int .i64 v89, fzL 1 (cInt .u8) v90, .int .i64 v91, .bool v92]]⟩ rfl ?_ (Nat.zero_le _) trivial ?_
                      · kernel_rfl
                      refine AOps.nil ?_
                      refine AWp.cond rfl (fun hb => ?_) fun hb => ?_
                      · replace h := of_true h hb
                        refine AWp.keepTo [5, 7, 11, 13] 2 ⟨[(5, .pc 0 0), (7, .tv (ownL 1 22 (cSl 1 (cInt .u8)) v22)), (11, .pc 1 0), (13, .tv (.int .i64 v82))], [.cells 65 [.str v83, .int .i64 v84, fzL 1 (cInt .u8) v85, .int .i64 v86, .bool v87], .cells 65 [.str v88, .int .i64 v89, fzL 1 (cInt .u8) v90, .int .i64 v91, .bool v92]]⟩ ?_ (Nat.zero_le _) ?_
                        · kernel_rfl
                        refine AWp.skip ?_
                        refine AWp.seq ?_
                        refine AWp.block ?_
                        refine AWp.seq ?_
                        refine AWp.start [0] [1, 2, 3, 4, 5, 6] [] [5, 7, 11, 13, 122] 2 ⟨[(5, .pc 0 0), (7, .tv (ownL 1 22 (cSl 1 (cInt .u8)) v22)), (11, .pc 1 0), (13, .tv (.int .i64 v82)), (122, .pc 0 0)], [.cells 65 [.str v83, .int .i64 v84, fzL 1 (cInt .u8) v85, .int .i64 v86, .bool v87], .cells 65 [.str v88, .int .i64 v89, fzL 1 (cInt .u8) v90, .int .i64 v91, .bool v92]]⟩ rfl ?_ (Nat.zero_le _) trivial ?_
                        · kernel_rfl
                        obtain ⟨v98, hv98, h⟩ := of_bind h
                        refine AOps.cons (AOne.callO (F := (FF 211 0)) _ rfl rfl rfl 123 rfl rfl 22 [] rfl Try.call22 [0] (by decide) [.pc 0 0] (by kernel_rfl) [.cells 65 [.str v83, .int .i64 v84, fzL 1 (cInt .u8) v85, .int .i64 v86, .bool v87]] (by kernel_rfl) (f22o_ok (T64.mk v83 v84 v85 v86 v87) hv98) (by kernel_rfl) (by kernel_rfl) _ rfl) ?_
                        refine AOps.go [2, 3, 4, 5, 6] [] [] [5, 7, 11, 13, 14, 15] 2 ⟨[(5, .pc 0 0), (7, .tv (ownL 1 22 (cSl 1 (cInt .u8)) v22)), (11, .pc 1 0), (13, .tv (.int .i64 v82)), (14, .tv (fzL 1 (cInt .u8) v98.1)), (15, .tv (.int .i64 v98.2.1))], [.cells 65 [.str v98.2.2.f0, .int .i64 v98.2.2.f1, fzL 1 (cInt .u8) v98.2.2.f2, .int .i64 v98.2.2.f3, .bool v98.2.2.f4], .cells 65 [.str v88, .int .i64 v89, fzL 1 (cInt .u8) v90, .int .i64 v91, .bool v92]]⟩ ?_ (Nat.zero_le _) trivial ?_
                        · kernel_rfl
                        refine AOps.nil ?_
                        refine AWp.seq ?_
                        refine AWp.start [0] [1, 2, 3, 4, 5, 6] [] [5, 7, 11, 13, 14, 15, 127] 2 ⟨[(5, .pc 0 0), (7, .tv (ownL 1 22 (cSl 1 (cInt .u8)) v22)), (11, .pc 1 0), (13, .tv (.int .i64 v82)), (14, .tv (fzL 1 (cInt .u8) v98.1)), (15, .tv (.int .i64 v98.2.1)), (127, .pc 1 0)], [.cells 65 [.str v98.2.2.f0, .int .i64 v98.2.2.f1, fzL 1 (cInt .u8) v98.2.2.f2, .int .i64 v98.2.2.f3, .bool v98.2.2.f4], .cells 65 [.str v88, .int .i64 v89, fzL 1 (cInt .u8) v90, .int .i64 v91, .bool v92]]⟩ rfl ?_ (Nat.zero_le _) trivial ?_
                        · kernel_rfl
                        obtain ⟨v99, hv99, h⟩ := of_bind h
                        refine AOps.cons (AOne.callO (F := (FF 211 0)) _ rfl rfl rfl 128 rfl rfl 22 [] rfl Try.call22 [1] (by decide) [.pc 0 0] (by kernel_rfl) [.cells 65 [.str v88, .int .i64 v89, fzL 1 (cInt .u8) v90, .int .i64 v91, .bool v92]] (by kernel_rfl) (f22o_ok (T64.mk v88 v89 v90 v91 v92) hv99) (by kernel_rfl) (by kernel_rfl) _ rfl) ?_
                        refine AOps.go [2, 3, 4, 5, 6] [] [] [5, 7, 11, 13, 14, 15, 16, 17] 2 ⟨[(5, .pc 0 0), (7, .tv (ownL 1 22 (cSl 1 (cInt .u8)) v22)), (11, .pc 1 0), (13, .tv (.int .i64 v82)), (14, .tv (fzL 1 (cInt .u8) v98.1)), (15, .tv (.int .i64 v98.2.1)), (16, .tv (fzL 1 (cInt .u8) v99.1)), (17, .tv (.int .i64 v99.2.1))], [.cells 65 [.str v98.2.2.f0, .int .i64 v98.2.2.f1, fzL 1 (cInt .u8) v98.2.2.f2, .int .i64 v98.2.2.f3, .bool v98.2.2.f4], .cells 65 [.str v99.2.2.f0, .int .i64 v99.2.2.f1, fzL 1 (cInt .u8) v99.2.2.f2, .int .i64 v99.2.2.f3, .bool v99.2.2.f4]]⟩ ?_ (Nat.zero_le _) trivial ?_
                        · kernel_rfl
                        refine AOps.nil ?_
                        refine AWp.seq ?_
                        obtain ⟨v100, hd, h⟩ := of_bind h
                        refine AWp.draw FFm (fun σ => σ = ⟨[(5, .pc 0 0), (7, .tv (ownL 1 22 (cSl 1 (cInt .u8)) v22)), (11, .pc 1 0), (13, .tv (.int .i64 v82)), (153, .tv (.bool v100))], [.cells 65 [.str v98.2.2.f0, .int .i64 v98.2.2.f1, fzL 1 (cInt .u8) v98.2.2.f2, .int .i64 v98.2.2.f3, .bool v98.2.2.f4], .cells 65 [.str v99.2.2.f0, .int .i64 v99.2.2.f1, fzL 1 (cInt .u8) v99.2.2.f2, .int .i64 v99.2.2.f3, .bool v99.2.2.f4]]⟩) (n := 23) rfl (ls := #[false, false, false, false, false, false, false, false, false, false, false, false, false, false, false, false, false, false, false, false, false, false, false]) rfl ?_ ?_
                        · refine AAny.go (by kernel_rfl) [0, 1, 2] (fuel' := 20) rfl [] #[true, true, true, false, false, false, false, false, false, false, false, false, false, false, false, false, false, false, false, false, false, false, false] [5, 7, 11, 13, 14, 16, 17, 133] 2 ⟨[(5, .pc 0 0), (7, .tv (ownL 1 22 (cSl 1 (cInt .u8)) v22)), (11, .pc 1 0), (13, .tv (.int .i64 v82)), (14, .tv (fzL 1 (cInt .u8) v98.1)), (16, .tv (fzL 1 (cInt .u8) v99.1)), (17, .tv (.int .i64 v99.2.1)), (133, .tv (.bool (v98.2.1 != (0 : Int))))], [.cells 65 [.str v98.2.2.f0, .int .i64 v98.2.2.f1, fzL 1 (cInt .u8) v98.2.2.f2, .int .i64 v98.2.2.f3, .bool v98.2.2.f4], .cells 65 [.str v99.2.2.f0, .int .i64 v99.2.2.f1, fzL 1 (cInt .u8) v99.2.2.f2, .int .i64 v99.2.2.f3, .bool v99.2.2.f4]]⟩ ?_ (Nat.zero_le _) trivial ?_
                          · kernel_rfl
                          refine AAny.split (fun b => ⟨[(5, .pc 0 0), (7, .tv (ownL 1 22 (cSl 1 (cInt .u8)) v22)), (11, .pc 1 0), (13, .tv (.int .i64 v82)), (14, .tv (fzL 1 (cInt .u8) v98.1)), (16, .tv (fzL 1 (cInt .u8) v99.1)), (17, .tv (.int .i64 v99.2.1)), (133, .tv (.bool b))], [.cells 65 [.str v98.2.2.f0, .int .i64 v98.2.2.f1, fzL 1 (cInt .u8) v98.2.2.f2, .int .i64 v98.2.2.f3, .bool v98.2.2.f4], .cells 65 [.str v99.2.2.f0, .int .i64 v99.2.2.f1, fzL 1 (cInt .u8) v99.2.2.f2, .int .i64 v99.2.2.f3, .bool v99.2.2.f4]]⟩) _ (fun hb => ?_) fun hb => ?_
                          · replace hd := of_true hd hb
                            refine AAny.go (by kernel_rfl) [3, 4, 5, 6, 7, 8, 9, 10, 11, 12, 13, 14, 15, 16, 17, 18, 19, 20, 21, 22] (fuel' := 0) rfl [] #[true, true, true, true, true, true, true, true, true, true, true, true, true, true, true, true, true, true, true, true, true, true, true] [5, 7, 11, 13, 153] 2 ⟨[(5, .pc 0 0), (7, .tv (ownL 1 22 (cSl 1 (cInt .u8)) v22)), (11, .pc 1 0), (13, .tv (.int .i64 v82)), (153, .tv (.bool true))], [.cells 65 [.str v98.2.2.f0, .int .i64 v98.2.2.f1, fzL 1 (cInt .u8) v98.2.2.f2, .int .i64 v98.2.2.f3, .bool v98.2.2.f4], .cells 65 [.str v99.2.2.f0, .int .i64 v99.2.2.f1, fzL 1 (cInt .u8) v99.2.2.f2, .int .i64 v99.2.2.f3, .bool v99.2.2.f4]]⟩ ?_ (Nat.zero_le _) trivial ?_
                            · kernel_rfl
                            refine AAny.keepTo [5, 7, 11, 13, 153] 2 ⟨[(5, .pc 0 0), (7, .tv (ownL 1 22 (cSl 1 (cInt .u8)) v22)), (11, .pc 1 0), (13, .tv (.int .i64 v82)), (153, .tv (.bool true))], [.cells 65 [.str v98.2.2.f0, .int .i64 v98.2.2.f1, fzL 1 (cInt .u8) v98.2.2.f2, .int .i64 v98.2.2.f3, .bool v98.2.2.f4], .cells 65 [.str v99.2.2.f0, .int .i64 v99.2.2.f1, fzL 1 (cInt .u8) v99.2.2.f2, .int .i64 v99.2.2.f3, .bool v99.2.2.f4]]⟩ _ ?_ rfl (Nat.zero_le _) (AAny.done (by kernel_rfl) ?_)
                            · kernel_rfl
                            cases hd
                            exact rfl
                          · replace hd := of_false hd hb
                            refine AAny.go (by kernel_rfl) [3, 4, 5, 6] (fuel' := 16) rfl [] #[true, true, true, true, true, true, true, false, false, false, false, false, false, false, false, false, false, false, false, false, false, false, false] [5, 7, 11, 13, 14, 16, 137] 2 ⟨[(5, .pc 0 0), (7, .tv (ownL 1 22 (cSl 1 (cInt .u8)) v22)), (11, .pc 1 0), (13, .tv (.int .i64 v82)), (14, .tv (fzL 1 (cInt .u8) v98.1)), (16, .tv (fzL 1 (cInt .u8) v99.1)), (137, .tv (.bool (v99.2.1 != (0 : Int))))], [.cells 65 [.str v98.2.2.f0, .int .i64 v98.2.2.f1, fzL 1 (cInt .u8) v98.2.2.f2, .int .i64 v98.2.2.f3, .bool v98.2.2.f4], .cells 65 [.str v99.2.2.f0, .int .i64 v99.2.2.f1, fzL 1 (cInt .u8) v99.2.2.f2, .int .i64 v99.2.2.f3, .bool v99.2.2.f4]]⟩ ?_ (Nat.zero_le _) trivial ?_
                            · kernel_rfl
                            refine AAny.split (fun b => ⟨[(5, .pc 0 0), (7, .tv (ownL 1 22 (cSl 1 (cInt .u8)) v22)), (11, .pc 1 0), (13, .tv (.int .i64 v82)), (14, .tv (fzL 1 (cInt .u8) v98.1)), (16, .tv (fzL 1 (cInt .u8) v99.1)), (137, .tv (.bool b))], [.cells 65 [.str v98.2.2.f0, .int .i64 v98.2.2.f1, fzL 1 (cInt .u8) v98.2.2.f2, .int .i64 v98.2.2.f3, .bool v98.2.2.f4], .cells 65 [.str v99.2.2.f0, .int .i64 v99.2.2.f1, fzL 1 (cInt .u8) v99.2.2.f2, .int .i64 v99.2.2.f3, .bool v99.2.2.f4]]⟩) _ (fun hb => ?_) fun hb => ?_
                            · replace hd := of_true hd hb
                              refine AAny.go (by kernel_rfl) [7, 8, 9, 10, 11, 12, 13, 14, 15, 16, 17, 18, 19, 20, 21, 22] (fuel' := 0) rfl [] #[true, true, true, true, true, true, true, true, true, true, true, true, true, true, true, true, true, true, true, true, true, true, true] [5, 7, 11, 13, 153] 2 ⟨[(5, .pc 0 0), (7, .tv (ownL 1 22 (cSl 1 (cInt .u8)) v22)), (11, .pc 1 0), (13, .tv (.int .i64 v82)), (153, .tv (.bool true))], [.cells 65 [.str v98.2.2.f0, .int .i64 v98.2.2.f1, fzL 1 (cInt .u8) v98.2.2.f2, .int .i64 v98.2.2.f3, .bool v98.2.2.f4], .cells 65 [.str v99.2.2.f0, .int .i64 v99.2.2.f1, fzL 1 (cInt .u8) v99.2.2.f2, .int .i64 v99.2.2.f3, .bool v99.2.2.f4]]⟩ ?_ (Nat.zero_le _) trivial ?_
                              · kernel_rfl
                              refine AAny.keepTo [5, 7, 11, 13, 153] 2 ⟨[(5, .pc 0 0), (7, .tv (ownL 1 22 (cSl 1 (cInt .u8)) v22)), (11, .pc 1 0), (13, .tv (.int .i64 v82)), (153, .tv (.bool true))], [.cells 65 [.str v98.2.2.f0, .int .i64 v98.2.2.f1, fzL 1 (cInt .u8) v98.2.2.f2, .int .i64 v98.2.2.f3, .bool v98.2.2.f4], .cells 65 [.str v99.2.2.f0, .int .i64 v99.2.2.f1, fzL 1 (cInt .u8) v99.2.2.f2, .int .i64 v99.2.2.f3, .bool v99.2.2.f4]]⟩ _ ?_ rfl (Nat.zero_le _) (AAny.done (by kernel_rfl) ?_)
                              · kernel_rfl
                              cases hd
                              exact rfl
                            · replace hd := of_false hd hb
                              refine AAny.go (by kernel_rfl) [7] (fuel' := 15) rfl [] #[true, true, true, true, true, true, true, true, false, false, false, false, false, false, false, false, false, false, false, false, false, false, false] [5, 7, 11, 13, 14, 16, 137, 138] 2 ⟨[(5, .pc 0 0), (7, .tv (ownL 1 22 (cSl 1 (cInt .u8)) v22)), (11, .pc 1 0), (13, .tv (.int .i64 v82)), (14, .tv (fzL 1 (cInt .u8) v98.1)), (16, .tv (fzL 1 (cInt .u8) v99.1)), (137, .tv (.bool false)), (138, .tv (fzL 1 (cInt .u8) v98.1))], [.cells 65 [.str v98.2.2.f0, .int .i64 v98.2.2.f1, fzL 1 (cInt .u8) v98.2.2.f2, .int .i64 v98.2.2.f3, .bool v98.2.2.f4], .cells 65 [.str v99.2.2.f0, .int .i64 v99.2.2.f1, fzL 1 (cInt .u8) v99.2.2.f2, .int .i64 v99.2.2.f3, .bool v99.2.2.f4]]⟩ ?_ (Nat.zero_le _) trivial ?_
                              · kernel_rfl
                              refine AAny.takeStr (F := (FF 211 0)) (i := 8) (fuel' := 14) (by kernel_rfl) rfl (by kernel_rfl) (by kernel_rfl) #[true, true, true, true, true, true, true, true, true, false, false, false, false, false, false, false, false, false, false, false, false, false, false] rfl _ rfl rfl rfl _ rfl rfl rfl rfl rfl (n := v98.1.length) (f := (fun i => (cInt .u8) (v98.1.getD i default))) rfl v98.1 rfl (fun _ _ => rfl) ?_
                              refine AAny.keepTo [5, 7, 11, 13, 14, 16, 137, 139] 2 ⟨[(5, .pc 0 0), (7, .tv (ownL 1 22 (cSl 1 (cInt .u8)) v22)), (11, .pc 1 0), (13, .tv (.int .i64 v82)), (14, .tv (fzL 1 (cInt .u8) v98.1)), (16, .tv (fzL 1 (cInt .u8) v99.1)), (137, .tv (.bool false)), (139, .tv (.str (v98.1.map (fun n => UInt8.ofNat n.toNat))))], [.cells 65 [.str v98.2.2.f0, .int .i64 v98.2.2.f1, fzL 1 (cInt .u8) v98.2.2.f2, .int .i64 v98.2.2.f3, .bool v98.2.2.f4], .cells 65 [.str v99.2.2.f0, .int .i64 v99.2.2.f1, fzL 1 (cInt .u8) v99.2.2.f2, .int .i64 v99.2.2.f3, .bool v99.2.2.f4]]⟩ #[true, true, true, true, true, true, true, true, true, false, false, false, false, false, false, false, false, false, false, false, false, false, false] ?_ rfl (Nat.zero_le _) ?_
                              · kernel_rfl
                              obtain ⟨hg, hd⟩ := of_guard hd
                              refine AAny.go (by kernel_rfl) [9, 10, 11] (fuel' := 11) rfl [(0 : Int) ≤ v82, v82 < (v22.length : Int)] #[true, true, true, true, true, true, true, true, true, true, true, true, false, false, false, false, false, false, false, false, false, false, false] [5, 7, 11, 13, 14, 16, 137, 139, 142] 2 ⟨[(5, .pc 0 0), (7, .tv (ownL 1 22 (cSl 1 (cInt .u8)) v22)), (11, .pc 1 0), (13, .tv (.int .i64 v82)), (14, .tv (fzL 1 (cInt .u8) v98.1)), (16, .tv (fzL 1 (cInt .u8) v99.1)), (137, .tv (.bool false)), (139, .tv (.str (v98.1.map (fun n => UInt8.ofNat n.toNat)))), (142, .pe (.slot 7 0, []) v82.toNat 0 1)], [.cells 65 [.str v98.2.2.f0, .int .i64 v98.2.2.f1, fzL 1 (cInt .u8) v98.2.2.f2, .int .i64 v98.2.2.f3, .bool v98.2.2.f4], .cells 65 [.str v99.2.2.f0, .int .i64 v99.2.2.f1, fzL 1 (cInt .u8) v99.2.2.f2, .int .i64 v99.2.2.f3, .bool v99.2.2.f4]]⟩ ?_ (Nat.zero_le _) ⟨hg.1, hg.2⟩ ?_
                              · kernel_rfl
                              refine AAny.step (i := 12) (fuel' := 10) rfl (by kernel_rfl) [] #[true, true, true, true, true, true, true, true, true, true, true, true, true, false, false, false, false, false, false, false, false, false, false] rfl [5, 7, 11, 13, 14, 16, 137, 139, 143] 2 ⟨[(5, .pc 0 0), (7, .tv (ownL 1 22 (cSl 1 (cInt .u8)) v22)), (11, .pc 1 0), (13, .tv (.int .i64 v82)), (14, .tv (fzL 1 (cInt .u8) v98.1)), (16, .tv (fzL 1 (cInt .u8) v99.1)), (137, .tv (.bool false)), (139, .tv (.str (v98.1.map (fun n => UInt8.ofNat n.toNat)))), (143, .tv (fzL 1 (cInt .u8) (v22.getD v82.toNat default)))], [.cells 65 [.str v98.2.2.f0, .int .i64 v98.2.2.f1, fzL 1 (cInt .u8) v98.2.2.f2, .int .i64 v98.2.2.f3, .bool v98.2.2.f4], .cells 65 [.str v99.2.2.f0, .int .i64 v99.2.2.f1, fzL 1 (cInt .u8) v99.2.2.f2, .int .i64 v99.2.2.f3, .bool v99.2.2.f4]]⟩ ?_ (Nat.zero_le _) trivial ?_
                              · kernel_rfl
                              refine AAny.takeStr (F := (FF 211 0)) (i := 13) (fuel' := 9) (by kernel_rfl) rfl (by kernel_rfl) (by kernel_rfl) #[true, true, true, true, true, true, true, true, true, true, true, true, true, true, false, false, false, false, false, false, false, false, false] rfl _ rfl rfl rfl _ rfl rfl rfl rfl rfl (n := (v22.getD v82.toNat default).length) (f := (fun i => (cInt .u8) ((v22.getD v82.toNat default).getD i default))) rfl (v22.getD v82.toNat default) rfl (fun _ _ => rfl) ?_
                              refine AAny.keepTo [5, 7, 11, 13, 14, 16, 137, 139, 144] 2 ⟨[(5, .pc 0 0), (7, .tv (ownL 1 22 (cSl 1 (cInt .u8)) v22)), (11, .pc 1 0), (13, .tv (.int .i64 v82)), (14, .tv (fzL 1 (cInt .u8) v98.1)), (16, .tv (fzL 1 (cInt .u8) v99.1)), (137, .tv (.bool false)), (139, .tv (.str (v98.1.map (fun n => UInt8.ofNat n.toNat)))), (144, .tv (.str ((v22.getD v82.toNat default).map (fun n => UInt8.ofNat n.toNat))))], [.cells 65 [.str v98.2.2.f0, .int .i64 v98.2.2.f1, fzL 1 (cInt .u8) v98.2.2.f2, .int .i64 v98.2.2.f3, .bool v98.2.2.f4], .cells 65 [.str v99.2.2.f0, .int .i64 v99.2.2.f1, fzL 1 (cInt .u8) v99.2.2.f2, .int .i64 v99.2.2.f3, .bool v99.2.2.f4]]⟩ #[true, true, true, true, true, true, true, true, true, true, true, true, true, true, false, false, false, false, false, false, false, false, false] ?_ rfl (Nat.zero_le _) ?_
                              · kernel_rfl
                              refine AAny.go (by kernel_rfl) [14, 15, 16] (fuel' := 6) rfl [] #[true, true, true, true, true, true, true, true, true, true, true, true, true, true, true, true, true, false, false, false, false, false, false] [5, 7, 11, 13, 14, 16, 147] 2 ⟨[(5, .pc 0 0), (7, .tv (ownL 1 22 (cSl 1 (cInt .u8)) v22)), (11, .pc 1 0), (13, .tv (.int .i64 v82)), (14, .tv (fzL 1 (cInt .u8) v98.1)), (16, .tv (fzL 1 (cInt .u8) v99.1)), (147, .tv (.bool (!((v98.1.map (fun n => UInt8.ofNat n.toNat)) == ((v22.getD v82.toNat default).map (fun n => UInt8.ofNat n.toNat))))))], [.cells 65 [.str v98.2.2.f0, .int .i64 v98.2.2.f1, fzL 1 (cInt .u8) v98.2.2.f2, .int .i64 v98.2.2.f3, .bool v98.2.2.f4], .cells 65 [.str v99.2.2.f0, .int .i64 v99.2.2.f1, fzL 1 (cInt .u8) v99.2.2.f2, .int .i64 v99.2.2.f3, .bool v99.2.2.f4]]⟩ ?_ (Nat.zero_le _) trivial ?_
                              · kernel_rfl
                              refine AAny.split (fun b => ⟨[(5, .pc 0 0), (7, .tv (ownL 1 22 (cSl 1 (cInt .u8)) v22)), (11, .pc 1 0), (13, .tv (.int .i64 v82)), (14, .tv (fzL 1 (cInt .u8) v98.1)), (16, .tv (fzL 1 (cInt .u8) v99.1)), (147, .tv (.bool b))], [.cells 65 [.str v98.2.2.f0, .int .i64 v98.2.2.f1, fzL 1 (cInt .u8) v98.2.2.f2, .int .i64 v98.2.2.f3, .bool v98.2.2.f4], .cells 65 [.str v99.2.2.f0, .int .i64 v99.2.2.f1, fzL 1 (cInt .u8) v99.2.2.f2, .int .i64 v99.2.2.f3, .bool v99.2.2.f4]]⟩) _ (fun hb => ?_) fun hb => ?_
                              · replace hd := of_true hd hb
                                refine AAny.go (by kernel_rfl) [17, 18, 19, 20, 21, 22] (fuel' := 0) rfl [] #[true, true, true, true, true, true, true, true, true, true, true, true, true, true, true, true, true, true, true, true, true, true, true] [5, 7, 11, 13, 153] 2 ⟨[(5, .pc 0 0), (7, .tv (ownL 1 22 (cSl 1 (cInt .u8)) v22)), (11, .pc 1 0), (13, .tv (.int .i64 v82)), (153, .tv (.bool true))], [.cells 65 [.str v98.2.2.f0, .int .i64 v98.2.2.f1, fzL 1 (cInt .u8) v98.2.2.f2, .int .i64 v98.2.2.f3, .bool v98.2.2.f4], .cells 65 [.str v99.2.2.f0, .int .i64 v99.2.2.f1, fzL 1 (cInt .u8) v99.2.2.f2, .int .i64 v99.2.2.f3, .bool v99.2.2.f4]]⟩ ?_ (Nat.zero_le _) trivial ?_
                                · kernel_rfl
                                refine AAny.keepTo [5, 7, 11, 13, 153] 2 ⟨[(5, .pc 0 0), (7, .tv (ownL 1 22 (cSl 1 (cInt .u8)) v22)), (11, .pc 1 0), (13, .tv (.int .i64 v82)), (153, .tv (.bool true))], [.cells 65 [.str v98.2.2.f0, .int .i64 v98.2.2.f1, fzL 1 (cInt .u8) v98.2.2.f2, .int .i64 v98.2.2.f3, .bool v98.2.2.f4], .cells 65 [.str v99.2.2.f0, .int .i64 v99.2.2.f1, fzL 1 (cInt .u8) v99.2.2.f2, .int .i64 v99.2.2.f3, .bool v99.2.2.f4]]⟩ _ ?_ rfl (Nat.zero_le _) (AAny.done (by kernel_rfl) ?_)
                                · kernel_rfl
                                cases hd
                                exact rfl
                              · replace hd := of_false hd hb
                                refine AAny.go (by kernel_rfl) [17] (fuel' := 5) rfl [] #[true, true, true, true, true, true, true, true, true, true, true, true, true, true, true, true, true, true, false, false, false, false, false] [5, 7, 11, 13, 14, 147, 148] 2 ⟨[(5, .pc 0 0), (7, .tv (ownL 1 22 (cSl 1 (cInt .u8)) v22)), (11, .pc 1 0), (13, .tv (.int .i64 v82)), (14, .tv (fzL 1 (cInt .u8) v98.1)), (147, .tv (.bool false)), (148, .tv (fzL 1 (cInt .u8) v99.1))], [.cells 65 [.str v98.2.2.f0, .int .i64 v98.2.2.f1, fzL 1 (cInt .u8) v98.2.2.f2, .int .i64 v98.2.2.f3, .bool v98.2.2.f4], .cells 65 [.str v99.2.2.f0, .int .i64 v99.2.2.f1, fzL 1 (cInt .u8) v99.2.2.f2, .int .i64 v99.2.2.f3, .bool v99.2.2.f4]]⟩ ?_ (Nat.zero_le _) trivial ?_
                                · kernel_rfl
                                refine AAny.takeStr (F := (FF 211 0)) (i := 18) (fuel' := 4) (by kernel_rfl) rfl (by kernel_rfl) (by kernel_rfl) #[true, true, true, true, true, true, true, true, true, true, true, true, true, true, true, true, true, true, true, false, false, false, false] rfl _ rfl rfl rfl _ rfl rfl rfl rfl rfl (n := v99.1.length) (f := (fun i => (cInt .u8) (v99.1.getD i default))) rfl v99.1 rfl (fun _ _ => rfl) ?_
                                refine AAny.keepTo [5, 7, 11, 13, 14, 147, 149] 2 ⟨[(5, .pc 0 0), (7, .tv (ownL 1 22 (cSl 1 (cInt .u8)) v22)), (11, .pc 1 0), (13, .tv (.int .i64 v82)), (14, .tv (fzL 1 (cInt .u8) v98.1)), (147, .tv (.bool false)), (149, .tv (.str (v99.1.map (fun n => UInt8.ofNat n.toNat))))], [.cells 65 [.str v98.2.2.f0, .int .i64 v98.2.2.f1, fzL 1 (cInt .u8) v98.2.2.f2, .int .i64 v98.2.2.f3, .bool v98.2.2.f4], .cells 65 [.str v99.2.2.f0, .int .i64 v99.2.2.f1, fzL 1 (cInt .u8) v99.2.2.f2, .int .i64 v99.2.2.f3, .bool v99.2.2.f4]]⟩ #[true, true, true, true, true, true, true, true, true, true, true, true, true, true, true, true, true, true, true, false, false, false, false] ?_ rfl (Nat.zero_le _) ?_
                                · kernel_rfl
                                refine AAny.go (by kernel_rfl) [19] (fuel' := 3) rfl [] #[true, true, true, true, true, true, true, true, true, true, true, true, true, true, true, true, true, true, true, true, false, false, false] [5, 7, 11, 13, 147, 149, 150] 2 ⟨[(5, .pc 0 0), (7, .tv (ownL 1 22 (cSl 1 (cInt .u8)) v22)), (11, .pc 1 0), (13, .tv (.int .i64 v82)), (147, .tv (.bool false)), (149, .tv (.str (v99.1.map (fun n => UInt8.ofNat n.toNat)))), (150, .tv (fzL 1 (cInt .u8) v98.1))], [.cells 65 [.str v98.2.2.f0, .int .i64 v98.2.2.f1, fzL 1 (cInt .u8) v98.2.2.f2, .int .i64 v98.2.2.f3, .bool v98.2.2.f4], .cells 65 [.str v99.2.2.f0, .int .i64 v99.2.2.f1, fzL 1 (cInt .u8) v99.2.2.f2, .int .i64 v99.2.2.f3, .bool v99.2.2.f4]]⟩ ?_ (Nat.zero_le _) trivial ?_
                                · kernel_rfl
                                refine AAny.takeStr (F := (FF 211 0)) (i := 20) (fuel' := 2) (by kernel_rfl) rfl (by kernel_rfl) (by kernel_rfl) #[true, true, true, true, true, true, true, true, true, true, true, true, true, true, true, true, true, true, true, true, true, false, false] rfl _ rfl rfl rfl _ rfl rfl rfl rfl rfl (n := v98.1.length) (f := (fun i => (cInt .u8) (v98.1.getD i default))) rfl v98.1 rfl (fun _ _ => rfl) ?_
                                refine AAny.keepTo [5, 7, 11, 13, 147, 149, 151] 2 ⟨[(5, .pc 0 0), (7, .tv (ownL 1 22 (cSl 1 (cInt .u8)) v22)), (11, .pc 1 0), (13, .tv (.int .i64 v82)), (147, .tv (.bool false)), (149, .tv (.str (v99.1.map (fun n => UInt8.ofNat n.toNat)))), (151, .tv (.str (v98.1.map (fun n => UInt8.ofNat n.toNat))))], [.cells 65 [.str v98.2.2.f0, .int .i64 v98.2.2.f1, fzL 1 (cInt .u8) v98.2.2.f2, .int .i64 v98.2.2.f3, .bool v98.2.2.f4], .cells 65 [.str v99.2.2.f0, .int .i64 v99.2.2.f1, fzL 1 (cInt .u8) v99.2.2.f2, .int .i64 v99.2.2.f3, .bool v99.2.2.f4]]⟩ #[true, true, true, true, true, true, true, true, true, true, true, true, true, true, true, true, true, true, true, true, true, false, false] ?_ rfl (Nat.zero_le _) ?_
                                · kernel_rfl
                                refine AAny.go (by kernel_rfl) [21, 22] (fuel' := 0) rfl [] #[true, true, true, true, true, true, true, true, true, true, true, true, true, true, true, true, true, true, true, true, true, true, true] [5, 7, 11, 13, 153] 2 ⟨[(5, .pc 0 0), (7, .tv (ownL 1 22 (cSl 1 (cInt .u8)) v22)), (11, .pc 1 0), (13, .tv (.int .i64 v82)), (153, .tv (.bool (!((v99.1.map (fun n => UInt8.ofNat n.toNat)) == (v98.1.map (fun n => UInt8.ofNat n.toNat))))))], [.cells 65 [.str v98.2.2.f0, .int .i64 v98.2.2.f1, fzL 1 (cInt .u8) v98.2.2.f2, .int .i64 v98.2.2.f3, .bool v98.2.2.f4], .cells 65 [.str v99.2.2.f0, .int .i64 v99.2.2.f1, fzL 1 (cInt .u8) v99.2.2.f2, .int .i64 v99.2.2.f3, .bool v99.2.2.f4]]⟩ ?_ (Nat.zero_le _) trivial ?_
                                · kernel_rfl
                                refine AAny.keepTo [5, 7, 11, 13, 153] 2 ⟨[(5, .pc 0 0), (7, .tv (ownL 1 22 (cSl 1 (cInt .u8)) v22)), (11, .pc 1 0), (13, .tv (.int .i64 v82)), (153, .tv (.bool (!((v99.1.map (fun n => UInt8.ofNat n.toNat)) == (v98.1.map (fun n => UInt8.ofNat n.toNat))))))], [.cells 65 [.str v98.2.2.f0, .int .i64 v98.2.2.f1, fzL 1 (cInt .u8) v98.2.2.f2, .int .i64 v98.2.2.f3, .bool v98.2.2.f4], .cells 65 [.str v99.2.2.f0, .int .i64 v99.2.2.f1, fzL 1 (cInt .u8) v99.2.2.f2, .int .i64 v99.2.2.f3, .bool v99.2.2.f4]]⟩ _ ?_ rfl (Nat.zero_le _) (AAny.done (by kernel_rfl) ?_)
                                · kernel_rfl
                                cases hd
                                exact rfl
                        rintro σ' rfl
                        refine AWp.cond rfl (fun hb => ?_) fun hb => ?_
                        · replace h := of_true h hb
                          refine AWp.keepTo [] 0 ⟨[], []⟩ ?_ (Nat.zero_le _) ?_
                          · kernel_rfl
                          refine AWp.seq ?_
                          refine AWp.start [0] [] [] [4] 0 ⟨[(4, .tv (.bool false))], []⟩ rfl ?_ (Nat.zero_le _) trivial ?_
                          · kernel_rfl
                          refine AOps.nil ?_
                          refine AWp.ret ?_
                          cases h
                          exact Or.inr ⟨_, rfl, by simp, rfl, rfl⟩
                        · replace h := of_false h hb
                          refine AWp.keepTo [5, 7, 11, 13] 2 ⟨[(5, .pc 0 0), (7, .tv (ownL 1 22 (cSl 1 (cInt .u8)) v22)), (11, .pc 1 0), (13, .tv (.int .i64 v82))], [.cells 65 [.str v98.2.2.f0, .int .i64 v98.2.2.f1, fzL 1 (cInt .u8) v98.2.2.f2, .int .i64 v98.2.2.f3, .bool v98.2.2.f4], .cells 65 [.str v99.2.2.f0, .int .i64 v99.2.2.f1, fzL 1 (cInt .u8) v99.2.2.f2, .int .i64 v99.2.2.f3, .bool v99.2.2.f4]]⟩ ?_ (Nat.zero_le _) ?_
                          · kernel_rfl
                          refine AWp.skip ?_
                          refine AWp.start [0, 1, 2] [] [] [5, 7, 11, 13] 2 ⟨[(5, .pc 0 0), (7, .tv (ownL 1 22 (cSl 1 (cInt .u8)) v22)), (11, .pc 1 0), (13, .tv (.int .i64 (w64 (v82 + (1 : Int)))))], [.cells 65 [.str v98.2.2.f0, .int .i64 v98.2.2.f1, fzL 1 (cInt .u8) v98.2.2.f2, .int .i64 v98.2.2.f3, .bool v98.2.2.f4], .cells 65 [.str v99.2.2.f0, .int .i64 v99.2.2.f1, fzL 1 (cInt .u8) v99.2.2.f2, .int .i64 v99.2.2.f3, .bool v99.2.2.f4]]⟩ rfl ?_ (Nat.zero_le _) trivial ?_
                          · kernel_rfl
                          refine AOps.nil ?_
                          cases h
                          exact Or.inl ⟨_, rfl, rfl, rfl⟩
                      · replace h := of_false h hb
                        refine AWp.keepTo [5, 7] 1 ⟨[(5, .pc 0 0), (7, .tv (ownL 1 22 (cSl 1 (cInt .u8)) v22))], [.cells 65 [.str v83, .int .i64 v84, fzL 1 (cInt .u8) v85, .int .i64 v86, .bool v87]]⟩ ?_ (Nat.zero_le _) ?_
                        · kernel_rfl
                        refine AWp.exit ?_
                        cases h
                        exact Or.inr ⟨_, rfl, by simp, rfl, rfl⟩
                    · intro e σ hp
                      rcases y with v101 | ⟨v93, v94, v95, v96, v97⟩
                      · obtain ⟨rfl, rfl⟩ := hp
                        cases h
                        exact ⟨.inr rfl, rfl⟩
                      · obtain ⟨rfl, rfl⟩ := hp
                        refine AWp.seq ?_
                        refine AWp.seq ?_
                        refine AWp.start [0] [1, 2, 3, 4, 5, 6] [] [5, 7, 155] 1 ⟨[(5, .pc 0 0), (7, .tv (ownL 1 22 (cSl 1 (cInt .u8)) v22)), (155, .pc 0 0)], [.cells 65 [.str v93, .int .i64 v94, fzL 1 (cInt .u8) v95, .int .i64 v96, .bool v97]]⟩ rfl ?_ (Nat.zero_le _) trivial ?_
                        · kernel_rfl
                        obtain ⟨v102, hv102, h⟩ := of_bind h
                        refine AOps.cons (AOne.callO (F := (FF 211 0)) _ rfl rfl rfl 156 rfl rfl 22 [] rfl Try.call22 [0] (by decide) [.pc 0 0] (by kernel_rfl) [.cells 65 [.str v93, .int .i64 v94, fzL 1 (cInt .u8) v95, .int .i64 v96, .bool v97]] (by kernel_rfl) (f22o_ok (T64.mk v93 v94 v95 v96 v97) hv102) (by kernel_rfl) (by kernel_rfl) _ rfl) ?_
                        refine AOps.go [2, 3, 4, 5, 6] [] [] [5, 7, 19] 1 ⟨[(5, .pc 0 0), (7, .tv (ownL 1 22 (cSl 1 (cInt .u8)) v22)), (19, .tv (.int .i64 v102.2.1))], [.cells 65 [.str v102.2.2.f0, .int .i64 v102.2.2.f1, fzL 1 (cInt .u8) v102.2.2.f2, .int .i64 v102.2.2.f3, .bool v102.2.2.f4]]⟩ ?_ (Nat.zero_le _) trivial ?_
                        · kernel_rfl
                        refine AOps.nil ?_
                        refine AWp.seq ?_
                        refine AWp.start [0, 1] [] [] [5, 7, 160] 1 ⟨[(5, .pc 0 0), (7, .tv (ownL 1 22 (cSl 1 (cInt .u8)) v22)), (160, .tv (.bool (v102.2.1 != (6 : Int))))], [.cells 65 [.str v102.2.2.f0, .int .i64 v102.2.2.f1, fzL 1 (cInt .u8) v102.2.2.f2, .int .i64 v102.2.2.f3, .bool v102.2.2.f4]]⟩ rfl ?_ (Nat.zero_le _) trivial ?_
                        · kernel_rfl
                        refine AOps.nil ?_
                        refine AWp.cond rfl (fun hb => ?_) fun hb => ?_
                        · replace h := of_true h hb
                          refine AWp.keepTo [] 0 ⟨[], []⟩ ?_ (Nat.zero_le _) ?_
                          · kernel_rfl
                          refine AWp.seq ?_
                          refine AWp.start [0] [] [] [4] 0 ⟨[(4, .tv (.bool false))], []⟩ rfl ?_ (Nat.zero_le _) trivial ?_
                          · kernel_rfl
                          refine AOps.nil ?_
                          refine AWp.ret ?_
                          cases h
                          exact ⟨.inr rfl, rfl⟩
                        · replace h := of_false h hb
                          refine AWp.keepTo [5, 7] 1 ⟨[(5, .pc 0 0), (7, .tv (ownL 1 22 (cSl 1 (cInt .u8)) v22))], [.cells 65 [.str v102.2.2.f0, .int .i64 v102.2.2.f1, fzL 1 (cInt .u8) v102.2.2.f2, .int .i64 v102.2.2.f3, .bool v102.2.2.f4]]⟩ ?_ (Nat.zero_le _) ?_
                          · kernel_rfl
                          refine AWp.skip ?_
                          refine AWp.seq ?_
                          refine AWp.seq ?_
                          refine AWp.start [0] [1, 2, 3, 4, 5, 6] [] [5, 7, 162] 1 ⟨[(5, .pc 0 0), (7, .tv (ownL 1 22 (cSl 1 (cInt .u8)) v22)), (162, .pc 0 0)], [.cells 65 [.str v102.2.2.f0, .int .i64 v102.2.2.f1, fzL 1 (cInt .u8) v102.2.2.f2, .int .i64 v102.2.2.f3, .bool v102.2.2.f4]]⟩ rfl ?_ (Nat.zero_le _) trivial ?_
                          · kernel_rfl
                          obtain ⟨v103, hv103, h⟩ := of_bind h
                          refine AOps.cons (AOne.callO (F := (FF 211 0)) _ rfl rfl rfl 163 rfl rfl 22 [] rfl Try.call22 [0] (by decide) [.pc 0 0] (by kernel_rfl) [.cells 65 [.str v102.2.2.f0, .int .i64 v102.2.2.f1, fzL 1 (cInt .u8) v102.2.2.f2, .int .i64 v102.2.2.f3, .bool v102.2.2.f4]] (by kernel_rfl) (f22o_ok v102.2.2 hv103) (by kernel_rfl) (by kernel_rfl) _ rfl) ?_
                          refine AOps.go [2, 3, 4, 5, 6] [] [] [5, 7, 21] 1 ⟨[(5, .pc 0 0), (7, .tv (ownL 1 22 (cSl 1 (cInt .u8)) v22)), (21, .tv (.int .i64 v103.2.1))], [.cells 65 [.str v103.2.2.f0, .int .i64 v103.2.2.f1, fzL 1 (cInt .u8) v103.2.2.f2, .int .i64 v103.2.2.f3, .bool v103.2.2.f4]]⟩ ?_ (Nat.zero_le _) trivial ?_
                          · kernel_rfl
                          refine AOps.nil ?_
                          refine AWp.seq ?_
                          refine AWp.start [0, 1, 2] [3, 4, 5, 6] [] [5, 7, 168] 1 ⟨[(5, .pc 0 0), (7, .tv (ownL 1 22 (cSl 1 (cInt .u8)) v22)), (168, .tv (.bool (v103.2.1 != (110 : Int))))], [.cells 65 [.str v103.2.2.f0, .int .i64 v103.2.2.f1, fzL 1 (cInt .u8) v103.2.2.f2, .int .i64 v103.2.2.f3, .bool v103.2.2.f4]]⟩ rfl ?_ (Nat.zero_le _) trivial ?_
                          · kernel_rfl
                          obtain ⟨⟨v104, v105, v106, v107, v108, v109⟩, hc3, h⟩ := of_bind h
                          refine AOps.cut [3, 4, 5, 6] [] (fun σ => σ = ⟨[(5, .pc 0 0), (7, .tv (ownL 1 22 (cSl 1 (cInt .u8)) v22)), (172, .tv (.bool v104))], [.cells 65 [.str v105, .int .i64 v106, fzL 1 (cInt .u8) v107, .int .i64 v108, .bool v109]]⟩) ?_ fun σ' hJ => ?_
                          · refine AOps.split (fun b => ⟨[(5, .pc 0 0), (7, .tv (ownL 1 22 (cSl 1 (cInt .u8)) v22)), (168, .tv (.bool b))], [.cells 65 [.str v103.2.2.f0, .int .i64 v103.2.2.f1, fzL 1 (cInt .u8) v103.2.2.f2, .int .i64 v103.2.2.f3, .bool v103.2.2.f4]]⟩) _ (fun hb => ?_) fun hb => ?_
                            · replace hc3 := of_true hc3 hb
                              refine AOps.go [3, 4, 5, 6] [] [] [5, 7, 172] 1 ⟨[(5, .pc 0 0), (7, .tv (ownL 1 22 (cSl 1 (cInt .u8)) v22)), (172, .tv (.bool true))], [.cells 65 [.str v103.2.2.f0, .int .i64 v103.2.2.f1, fzL 1 (cInt .u8) v103.2.2.f2, .int .i64 v103.2.2.f3, .bool v103.2.2.f4]]⟩ ?_ (Nat.zero_le _) trivial ?_
                              · kernel_rfl
                              cases hc3
                              exact AOps.nil rfl
                            · replace hc3 := of_false hc3 hb
                              refine AOps.go [3] [4, 5, 6] [] [5, 7, 168, 169] 1 ⟨[(5, .pc 0 0), (7, .tv (ownL 1 22 (cSl 1 (cInt .u8)) v22)), (168, .tv (.bool false)), (169, .pc 0 0)], [.cells 65 [.str v103.2.2.f0, .int .i64 v103.2.2.f1, fzL 1 (cInt .u8) v103.2.2.f2, .int .i64 v103.2.2.f3, .bool v103.2.2.f4]]⟩ ?_ (Nat.zero_le _) trivial ?_
                              · kernel_rfl
                              obtain ⟨v110, hv110, hc3⟩ := of_bind hc3
                              refine AOps.cons (AOne.callO (F := (FF 211 0)) _ rfl rfl rfl 170 rfl rfl 23 [] rfl Try.call23 [0] (by decide) [.pc 0 0] (by kernel_rfl) [.cells 65 [.str v103.2.2.f0, .int .i64 v103.2.2.f1, fzL 1 (cInt .u8) v103.2.2.f2, .int .i64 v103.2.2.f3, .bool v103.2.2.f4]] (by kernel_rfl) (f23o_ok v103.2.2 hv110) (by kernel_rfl) (by kernel_rfl) _ rfl) ?_
                              refine AOps.go [5, 6] [] [] [5, 7, 172] 1 ⟨[(5, .pc 0 0), (7, .tv (ownL 1 22 (cSl 1 (cInt .u8)) v22)), (172, .tv (.bool (v110.1 != (0 : Int))))], [.cells 65 [.str v110.2.f0, .int .i64 v110.2.f1, fzL 1 (cInt .u8) v110.2.f2, .int .i64 v110.2.f3, .bool v110.2.f4]]⟩ ?_ (Nat.zero_le _) trivial ?_
                              · kernel_rfl
                              cases hc3
                              exact AOps.nil rfl
                          subst hJ
                          refine AOps.nil ?_
                          refine AWp.cond rfl (fun hb => ?_) fun hb => ?_
                          · replace h := of_true h hb
                            refine AWp.keepTo [] 0 ⟨[], []⟩ ?_ (Nat.zero_le _) ?_
                            · kernel_rfl
                            refine AWp.seq ?_
                            refine AWp.start [0] [] [] [4] 0 ⟨[(4, .tv (.bool false))], []⟩ rfl ?_ (Nat.zero_le _) trivial ?_
                            · kernel_rfl
                            refine AOps.nil ?_
                            refine AWp.ret ?_
                            cases h
                            exact ⟨.inr rfl, rfl⟩
                          · replace h := of_false h hb
                            refine AWp.keepTo [5, 7] 1 ⟨[(5, .pc 0 0), (7, .tv (ownL 1 22 (cSl 1 (cInt .u8)) v22))], [.cells 65 [.str v105, .int .i64 v106, fzL 1 (cInt .u8) v107, .int .i64 v108, .bool v109]]⟩ ?_ (Nat.zero_le _) ?_
                            · kernel_rfl
                            refine AWp.skip ?_
                            refine AWp.seq ?_
                            refine AWp.seq ?_
                            refine AWp.start [0, 1, 2, 3] [] [] [5, 7, 22] 1 ⟨[(5, .pc 0 0), (7, .tv (ownL 1 22 (cSl 1 (cInt .u8)) v22)), (22, .tv (.int .i64 (w64 ((v22.length : Int) - (1 : Int)))))], [.cells 65 [.str v105, .int .i64 v106, fzL 1 (cInt .u8) v107, .int .i64 v108, .bool v109]]⟩ rfl ?_ (Nat.zero_le _) trivial ?_
                            · kernel_rfl
                            refine AOps.nil ?_
                            refine AWp.block ?_
                            obtain ⟨y, hy, h⟩ := of_bind h
                            refine AWp.mono (AWp.loop (S := Int × (List UInt8) × Int × (List Int) × Int × Bool) (Y := Out Bool ((List UInt8) × Int × (List Int) × Int × Bool)) (fun s => ⟨[(5, .pc 0 0), (7, .tv (ownL 1 22 (cSl 1 (cInt .u8)) v22)), (22, .tv (.int .i64 s.1))], [.cells 65 [.str s.2.1, .int .i64 s.2.2.1, fzL 1 (cInt .u8) s.2.2.2.1, .int .i64 s.2.2.2.2.1, .bool s.2.2.2.2.2]]⟩) (fun s => f4_b6 v22 s.1 s.2.1 s.2.2.1 s.2.2.2.1 s.2.2.2.2.1 s.2.2.2.2.2) (fun y e σ => match y with | .ret r => e = .ret ∧ σ = ⟨[(4, .tv (.bool r))], []⟩ | .go v => e = .exit 4 ∧ σ = ⟨[(5, .pc 0 0)], [.cells 65 [.str v.1, .int .i64 v.2.1, fzL 1 (cInt .u8) v.2.2.1, .int .i64 v.2.2.2.1, .bool v.2.2.2.2]]⟩) ?_ hy) ?_
                            · rintro ⟨v111, v112, v113, v114, v115, v116⟩ o h
                              refine AWp.seq ?_
                              refine AWp.seq ?_
                              refine AWp.start [0, 1] [] [] [5, 7, 22, 177] 1 ⟨[(5, .pc 0 0), (7, .tv (ownL 1 22 (cSl 1 (cInt .u8)) v22)), (22, .tv (.int .i64 v111)), (177, .tv (.bool (decide (v111 ≥ (0 : Int)))))], [.cells 65 [.str v112, .int .i64 v113, fzL 1 (cInt .u8) v114, .int .i64 v115, .bool v116]]⟩ rfl ?_ (Nat.zero_le _) trivial ?_
                              · kernel_rfl
                              refine AOps.nil ?_
                              refine AWp.cond rfl (fun hb => ?_) fun hb => ?_
                              · replace h := of_true h hb
                                refine AWp.keepTo [5, 7, 22] 1 ⟨[(5, .pc 0 0), (7, .tv (ownL 1 22 (cSl 1 (cInt .u8)) v22)), (22, .tv (.int .i64 v111))], [.cells 65 [.str v112, .int .i64 v113, fzL 1 (cInt .u8) v114, .int .i64 v115, .bool v116]]⟩ ?_ (Nat.zero_le _) ?_
                                · kernel_rfl
                                refine AWp.skip ?_
                                refine AWp.seq ?_
                                refine AWp.block ?_
                                refine AWp.seq ?_
                                refine AWp.seq ?_
                                refine AWp.start [0] [1, 2] [] [5, 7, 22, 180] 1 ⟨[(5, .pc 0 0), (7, .tv (ownL 1 22 (cSl 1 (cInt .u8)) v22)), (22, .tv (.int .i64 v111)), (180, .pc 0 0)], [.cells 65 [.str v112, .int .i64 v113, fzL 1 (cInt .u8) v114, .int .i64 v115, .bool v116]]⟩ rfl ?_ (Nat.zero_le _) trivial ?_
                                · kernel_rfl
                                obtain ⟨v122, hv122, h⟩ := of_bind h
                                refine AOps.cons (AOne.callO (F := (FF 211 0)) _ rfl rfl rfl 181 rfl rfl 23 [] rfl Try.call23 [0] (by decide) [.pc 0 0] (by kernel_rfl) [.cells 65 [.str v112, .int .i64 v113, fzL 1 (cInt .u8) v114, .int .i64 v115, .bool v116]] (by kernel_rfl) (f23o_ok (T64.mk v112 v113 v114 v115 v116) hv122) (by kernel_rfl) (by kernel_rfl) _ rfl) ?_
                                refine AOps.go [2] [] [] [5, 7, 22, 182] 1 ⟨[(5, .pc 0 0), (7, .tv (ownL 1 22 (cSl 1 (cInt .u8)) v22)), (22, .tv (.int .i64 v111)), (182, .tv (.bool (v122.1 != (0 : Int))))], [.cells 65 [.str v122.2.f0, .int .i64 v122.2.f1, fzL 1 (cInt .u8) v122.2.f2, .int .i64 v122.2.f3, .bool v122.2.f4]]⟩ ?_ (Nat.zero_le _) trivial ?_
                                · kernel_rfl
                                refine AOps.nil ?_
                                refine AWp.cond rfl (fun hb => ?_) fun hb => ?_
                                · replace h := of_true h hb
                                  refine AWp.keepTo [] 0 ⟨[], []⟩ ?_ (Nat.zero_le _) ?_
                                  · kernel_rfl
                                  refine AWp.seq ?_
                                  refine AWp.start [0] [] [] [4] 0 ⟨[(4, .tv (.bool false))], []⟩ rfl ?_ (Nat.zero_le _) trivial ?_
                                  · kernel_rfl
                                  refine AOps.nil ?_
                                  refine AWp.ret ?_
                                  cases h
                                  exact Or.inr ⟨_, rfl, by simp, rfl, rfl⟩
                                · replace h := of_false h hb
                                  refine AWp.keepTo [5, 7, 22] 1 ⟨[(5, .pc 0 0), (7, .tv (ownL 1 22 (cSl 1 (cInt .u8)) v22)), (22, .tv (.int .i64 v111))], [.cells 65 [.str v122.2.f0, .int .i64 v122.2.f1, fzL 1 (cInt .u8) v122.2.f2, .int .i64 v122.2.f3, .bool v122.2.f4]]⟩ ?_ (Nat.zero_le _) ?_
                                  · kernel_rfl
                                  refine AWp.skip ?_
                                  refine AWp.seq ?_
                                  refine AWp.start [0] [1, 2, 3, 4, 5, 6] [] [5, 7, 22, 184] 1 ⟨[(5, .pc 0 0), (7, .tv (ownL 1 22 (cSl 1 (cInt .u8)) v22)), (22, .tv (.int .i64 v111)), (184, .pc 0 0)], [.cells 65 [.str v122.2.f0, .int .i64 v122.2.f1, fzL 1 (cInt .u8) v122.2.f2, .int .i64 v122.2.f3, .bool v122.2.f4]]⟩ rfl ?_ (Nat.zero_le _) trivial ?_
                                  · kernel_rfl
                                  obtain ⟨v123, hv123, h⟩ := of_bind h
                                  refine AOps.cons (AOne.callO (F := (FF 211 0)) _ rfl rfl rfl 185 rfl rfl 22 [] rfl Try.call22 [0] (by decide) [.pc 0 0] (by kernel_rfl) [.cells 65 [.str v122.2.f0, .int .i64 v122.2.f1, fzL 1 (cInt .u8) v122.2.f2, .int .i64 v122.2.f3, .bool v122.2.f4]] (by kernel_rfl) (f22o_ok v122.2 hv123) (by kernel_rfl) (by kernel_rfl) _ rfl) ?_
                                  refine AOps.go [2, 3, 4, 5, 6] [] [] [5, 7, 22, 23, 24] 1 ⟨[(5, .pc 0 0), (7, .tv (ownL 1 22 (cSl 1 (cInt .u8)) v22)), (22, .tv (.int .i64 v111)), (23, .tv (fzL 1 (cInt .u8) v123.1)), (24, .tv (.int .i64 v123.2.1))], [.cells 65 [.str v123.2.2.f0, .int .i64 v123.2.2.f1, fzL 1 (cInt .u8) v123.2.2.f2, .int .i64 v123.2.2.f3, .bool v123.2.2.f4]]⟩ ?_ (Nat.zero_le _) trivial ?_
                                  · kernel_rfl
                                  refine AOps.nil ?_
                                  refine AWp.seq ?_
                                  obtain ⟨⟨v124, v125, v126, v127, v128, v129⟩, hd, h⟩ := of_bind h
                                  refine AWp.draw FFm (fun σ => σ = ⟨[(5, .pc 0 0), (7, .tv (ownL 1 22 (cSl 1 (cInt .u8)) v22)), (22, .tv (.int .i64 v111)), (204, .tv (.bool v124))], [.cells 65 [.str v125, .int .i64 v126, fzL 1 (cInt .u8) v127, .int .i64 v128, .bool v129]]⟩) (n := 17) rfl (ls := #[false, false, false, false, false, false, false, false, false, false, false, false, false, false, false, false, false]) rfl ?_ ?_
                                  · refine AAny.go (by kernel_rfl) [0, 1, 2] (fuel' := 14) rfl [] #[true, true, true, false, false, false, false, false, false, false, false, false, false, false, false, false, false] [5, 7, 22, 23, 190] 1 ⟨[(5, .pc 0 0), (7, .tv (ownL 1 22 (cSl 1 (cInt .u8)) v22)), (22, .tv (.int .i64 v111)), (23, .tv (fzL 1 (cInt .u8) v123.1)), (190, .tv (.bool (v123.2.1 != (0 : Int))))], [.cells 65 [.str v123.2.2.f0, .int .i64 v123.2.2.f1, fzL 1 (cInt .u8) v123.2.2.f2, .int .i64 v123.2.2.f3, .bool v123.2.2.f4]]⟩ ?_ (Nat.zero_le _) trivial ?_
                                    · kernel_rfl
                                    refine AAny.split (fun b => ⟨[(5, .pc 0 0), (7, .tv (ownL 1 22 (cSl 1 (cInt .u8)) v22)), (22, .tv (.int .i64 v111)), (23, .tv (fzL 1 (cInt .u8) v123.1)), (190, .tv (.bool b))], [.cells 65 [.str v123.2.2.f0, .int .i64 v123.2.2.f1, fzL 1 (cInt .u8) v123.2.2.f2, .int .i64 v123.2.2.f3, .bool v123.2.2.f4]]⟩) _ (fun hb => ?_) fun hb => ?_
                                    · replace hd := of_true hd hb
                                      refine AAny.go (by kernel_rfl) [3, 4, 5, 6, 7, 8, 9, 10, 11, 12, 13, 14, 15, 16] (fuel' := 0) rfl [] #[true, true, true, true, true, true, true, true, true, true, true, true, true, true, true, true, true] [5, 7, 22, 204] 1 ⟨[(5, .pc 0 0), (7, .tv (ownL 1 22 (cSl 1 (cInt .u8)) v22)), (22, .tv (.int .i64 v111)), (204, .tv (.bool true))], [.cells 65 [.str v123.2.2.f0, .int .i64 v123.2.2.f1, fzL 1 (cInt .u8) v123.2.2.f2, .int .i64 v123.2.2.f3, .bool v123.2.2.f4]]⟩ ?_ (Nat.zero_le _) trivial ?_
                                      · kernel_rfl
                                      refine AAny.keepTo [5, 7, 22, 204] 1 ⟨[(5, .pc 0 0), (7, .tv (ownL 1 22 (cSl 1 (cInt .u8)) v22)), (22, .tv (.int .i64 v111)), (204, .tv (.bool true))], [.cells 65 [.str v123.2.2.f0, .int .i64 v123.2.2.f1, fzL 1 (cInt .u8) v123.2.2.f2, .int .i64 v123.2.2.f3, .bool v123.2.2.f4]]⟩ _ ?_ rfl (Nat.zero_le _) (AAny.done (by kernel_rfl) ?_)
                                      · kernel_rfl
                                      cases hd
                                      exact rfl
                                    · replace hd := of_false hd hb
                                      refine AAny.go (by kernel_rfl) [3] (fuel' := 13) rfl [] #[true, true, true, true, false, false, false, false, false, false, false, false, false, false, false, false, false] [5, 7, 22, 190, 191] 1 ⟨[(5, .pc 0 0), (7, .tv (ownL 1 22 (cSl 1 (cInt .u8)) v22)), (22, .tv (.int .i64 v111)), (190, .tv (.bool false)), (191, .tv (fzL 1 (cInt .u8) v123.1))], [.cells 65 [.str v123.2.2.f0, .int .i64 v123.2.2.f1, fzL 1 (cInt .u8) v123.2.2.f2, .int .i64 v123.2.2.f3, .bool v123.2.2.f4]]⟩ ?_ (Nat.zero_le _) trivial ?_
                                      · kernel_rfl
                                      refine AAny.takeStr (F := (FF 211 0)) (i := 4) (fuel' := 12) (by kernel_rfl) rfl (by kernel_rfl) (by kernel_rfl) #[true, true, true, true, true, false, false, false, false, false, false, false, false, false, false, false, false] rfl _ rfl rfl rfl _ rfl rfl rfl rfl rfl (n := v123.1.length) (f := (fun i => (cInt .u8) (v123.1.getD i default))) rfl v123.1 rfl (fun _ _ => rfl) ?_
                                      refine AAny.keepTo [5, 7, 22, 190, 192] 1 ⟨[(5, .pc 0 0), (7, .tv (ownL 1 22 (cSl 1 (cInt .u8)) v22)), (22, .tv (.int .i64 v111)), (190, .tv (.bool false)), (192, .tv (.str (v123.1.map (fun n => UInt8.ofNat n.toNat))))], [.cells 65 [.str v123.2.2.f0, .int .i64 v123.2.2.f1, fzL 1 (cInt .u8) v123.2.2.f2, .int .i64 v123.2.2.f3, .bool v123.2.2.f4]]⟩ #[true, true, true, true, true, false, false, false, false, false, false, false, false, false, false, false, false] ?_ rfl (Nat.zero_le _) ?_
                                      · kernel_rfl
                                      obtain ⟨hg, hd⟩ := of_guard hd
                                      refine AAny.go (by kernel_rfl) [5, 6, 7] (fuel' := 9) rfl [(0 : Int) ≤ v111, v111 < (v22.length : Int)] #[true, true, true, true, true, true, true, true, false, false, false, false, false, false, false, false, false] [5, 7, 22, 190, 192, 195] 1 ⟨[(5, .pc 0 0), (7, .tv (ownL 1 22 (cSl 1 (cInt .u8)) v22)), (22, .tv (.int .i64 v111)), (190, .tv (.bool false)), (192, .tv (.str (v123.1.map (fun n => UInt8.ofNat n.toNat)))), (195, .pe (.slot 7 0, []) v111.toNat 0 1)], [.cells 65 [.str v123.2.2.f0, .int .i64 v123.2.2.f1, fzL 1 (cInt .u8) v123.2.2.f2, .int .i64 v123.2.2.f3, .bool v123.2.2.f4]]⟩ ?_ (Nat.zero_le _) ⟨hg.1, hg.2⟩ ?_
                                      · kernel_rfl
                                      refine AAny.step (i := 8) (fuel' := 8) rfl (by kernel_rfl) [] #[true, true, true, true, true, true, true, true, true, false, false, false, false, false, false, false, false] rfl [5, 7, 22, 190, 192, 196] 1 ⟨[(5, .pc 0 0), (7, .tv (ownL 1 22 (cSl 1 (cInt .u8)) v22)), (22, .tv (.int .i64 v111)), (190, .tv (.bool false)), (192, .tv (.str (v123.1.map (fun n => UInt8.ofNat n.toNat)))), (196, .tv (fzL 1 (cInt .u8) (v22.getD v111.toNat default)))], [.cells 65 [.str v123.2.2.f0, .int .i64 v123.2.2.f1, fzL 1 (cInt .u8) v123.2.2.f2, .int .i64 v123.2.2.f3, .bool v123.2.2.f4]]⟩ ?_ (Nat.zero_le _) trivial ?_
                                      · kernel_rfl
                                      refine AAny.takeStr (F := (FF 211 0)) (i := 9) (fuel' := 7) (by kernel_rfl) rfl (by kernel_rfl) (by kernel_rfl) #[true, true, true, true, true, true, true, true, true, true, false, false, false, false, false, false, false] rfl _ rfl rfl rfl _ rfl rfl rfl rfl rfl (n := (v22.getD v111.toNat default).length) (f := (fun i => (cInt .u8) ((v22.getD v111.toNat default).getD i default))) rfl (v22.getD v111.toNat default) rfl (fun _ _ => rfl) ?_
                                      refine AAny.keepTo [5, 7, 22, 190, 192, 197] 1 ⟨[(5, .pc 0 0), (7, .tv (ownL 1 22 (cSl 1 (cInt .u8)) v22)), (22, .tv (.int .i64 v111)), (190, .tv (.bool false)), (192, .tv (.str (v123.1.map (fun n => UInt8.ofNat n.toNat)))), (197, .tv (.str ((v22.getD v111.toNat default).map (fun n => UInt8.ofNat n.toNat))))], [.cells 65 [.str v123.2.2.f0, .int .i64 v123.2.2.f1, fzL 1 (cInt .u8) v123.2.2.f2, .int .i64 v123.2.2.f3, .bool v123.2.2.f4]]⟩ #[true, true, true, true, true, true, true, true, true, true, false, false, false, false, false, false, false] ?_ rfl (Nat.zero_le _) ?_
                                      · kernel_rfl
                                      refine AAny.go (by kernel_rfl) [10, 11, 12] (fuel' := 4) rfl [] #[true, true, true, true, true, true, true, true, true, true, true, true, true, false, false, false, false] [5, 7, 22, 200] 1 ⟨[(5, .pc 0 0), (7, .tv (ownL 1 22 (cSl 1 (cInt .u8)) v22)), (22, .tv (.int .i64 v111)), (200, .tv (.bool (!((v123.1.map (fun n => UInt8.ofNat n.toNat)) == ((v22.getD v111.toNat default).map (fun n => UInt8.ofNat n.toNat))))))], [.cells 65 [.str v123.2.2.f0, .int .i64 v123.2.2.f1, fzL 1 (cInt .u8) v123.2.2.f2, .int .i64 v123.2.2.f3, .bool v123.2.2.f4]]⟩ ?_ (Nat.zero_le _) trivial ?_
                                      · kernel_rfl
                                      refine AAny.split (fun b => ⟨[(5, .pc 0 0), (7, .tv (ownL 1 22 (cSl 1 (cInt .u8)) v22)), (22, .tv (.int .i64 v111)), (200, .tv (.bool b))], [.cells 65 [.str v123.2.2.f0, .int .i64 v123.2.2.f1, fzL 1 (cInt .u8) v123.2.2.f2, .int .i64 v123.2.2.f3, .bool v123.2.2.f4]]⟩) _ (fun hb => ?_) fun hb => ?_
                                      · replace hd := of_true hd hb
                                        refine AAny.go (by kernel_rfl) [13, 14, 15, 16] (fuel' := 0) rfl [] #[true, true, true, true, true, true, true, true, true, true, true, true, true, true, true, true, true] [5, 7, 22, 204] 1 ⟨[(5, .pc 0 0), (7, .tv (ownL 1 22 (cSl 1 (cInt .u8)) v22)), (22, .tv (.int .i64 v111)), (204, .tv (.bool true))], [.cells 65 [.str v123.2.2.f0, .int .i64 v123.2.2.f1, fzL 1 (cInt .u8) v123.2.2.f2, .int .i64 v123.2.2.f3, .bool v123.2.2.f4]]⟩ ?_ (Nat.zero_le _) trivial ?_
                                        · kernel_rfl
                                        refine AAny.keepTo [5, 7, 22, 204] 1 ⟨[(5, .pc 0 0), (7, .tv (ownL 1 22 (cSl 1 (cInt .u8)) v22)), (22, .tv (.int .i64 v111)), (204, .tv (.bool true))], [.cells 65 [.str v123.2.2.f0, .int .i64 v123.2.2.f1, fzL 1 (cInt .u8) v123.2.2.f2, .int .i64 v123.2.2.f3, .bool v123.2.2.f4]]⟩ _ ?_ rfl (Nat.zero_le _) (AAny.done (by kernel_rfl) ?_)
                                        · kernel_rfl
                                        cases hd
                                        exact rfl
                                      · replace hd := of_false hd hb
                                        refine AAny.go (by kernel_rfl) [13] (fuel' := 3) rfl [] #[true, true, true, true, true, true, true, true, true, true, true, true, true, true, false, false, false] [5, 7, 22, 200, 201] 1 ⟨[(5, .pc 0 0), (7, .tv (ownL 1 22 (cSl 1 (cInt .u8)) v22)), (22, .tv (.int .i64 v111)), (200, .tv (.bool false)), (201, .pc 0 0)], [.cells 65 [.str v123.2.2.f0, .int .i64 v123.2.2.f1, fzL 1 (cInt .u8) v123.2.2.f2, .int .i64 v123.2.2.f3, .bool v123.2.2.f4]]⟩ ?_ (Nat.zero_le _) trivial ?_
                                        · kernel_rfl
                                        obtain ⟨v130, hv130, hd⟩ := of_bind hd
                                        refine AAny.serial (i := 14) (fuel := 2) (by kernel_rfl) (AOne.callO (F := (FF 211 0)) _ rfl rfl rfl 202 rfl rfl 23 [] rfl Try.call23 [0] (by decide) [.pc 0 0] (by kernel_rfl) [.cells 65 [.str v123.2.2.f0, .int .i64 v123.2.2.f1, fzL 1 (cInt .u8) v123.2.2.f2, .int .i64 v123.2.2.f3, .bool v123.2.2.f4]] (by kernel_rfl) (f23o_ok v123.2.2 hv130) (by kernel_rfl) (by kernel_rfl) _ rfl) ?_
                                        refine AAny.keepTo [5, 7, 22, 200, 202] 1 ⟨[(5, .pc 0 0), (7, .tv (ownL 1 22 (cSl 1 (cInt .u8)) v22)), (22, .tv (.int .i64 v111)), (200, .tv (.bool false)), (202, .tv (.int .i64 v130.1))], [.cells 65 [.str v130.2.f0, .int .i64 v130.2.f1, fzL 1 (cInt .u8) v130.2.f2, .int .i64 v130.2.f3, .bool v130.2.f4]]⟩ #[true, true, true, true, true, true, true, true, true, true, true, true, true, true, true, false, false] ?_ rfl (Nat.zero_le _) ?_
                                        · kernel_rfl
                                        refine AAny.go (by kernel_rfl) [15, 16] (fuel' := 0) rfl [] #[true, true, true, true, true, true, true, true, true, true, true, true, true, true, true, true, true] [5, 7, 22, 204] 1 ⟨[(5, .pc 0 0), (7, .tv (ownL 1 22 (cSl 1 (cInt .u8)) v22)), (22, .tv (.int .i64 v111)), (204, .tv (.bool (v130.1 != (0 : Int))))], [.cells 65 [.str v130.2.f0, .int .i64 v130.2.f1, fzL 1 (cInt .u8) v130.2.f2, .int .i64 v130.2.f3, .bool v130.2.f4]]⟩ ?_ (Nat.zero_le _) trivial ?_
                                        · kernel_rfl
                                        refine AAny.keepTo [5, 7, 22, 204] 1 ⟨[(5, .pc 0 0), (7, .tv (ownL 1 22 (cSl 1 (cInt .u8)) v22)), (22, .tv (.int .i64 v111)), (204, .tv (.bool (v130.1 != (0 : Int))))], [.cells 65 [.str v130.2.f0, .int .i64 v130.2.f1, fzL 1 (cInt .u8) v130.2.f2, .int .i64 v130.2.f3, .bool v130.2.f4]]⟩ _ ?_ rfl (Nat.zero_le _) (AAny.done (by kernel_rfl) ?_)
                                        · kernel_rfl
                                        cases hd
                                        exact rfl
                                  rintro σ' rfl
                                  refine AWp.cond rfl (fun hb => ?_) fun hb => ?_
                                  · replace h := of_true h hb
                                    refine AWp.keepTo [] 0 ⟨[], []⟩ ?_ (Nat.zero_le _) ?_
                                    · kernel_rfl
                                    refine AWp.seq ?_
                                    refine AWp.start [0] [] [] [4] 0 ⟨[(4, .tv (.bool false))], []⟩ rfl ?_ (Nat.zero_le _) trivial ?_
                                    · kernel_rfl
                                    refine AOps.nil ?_
                                    refine AWp.ret ?_
                                    cases h
                                    exact Or.inr ⟨_, rfl, by simp, rfl, rfl⟩
                                  · replace h := of_false h hb
                                    refine AWp.keepTo [5, 7, 22] 1 ⟨[(5, .pc 0 0), (7, .tv (ownL 1 22 (cSl 1 (cInt .u8)) v22)), (22, .tv (.int .i64 v111))], [.cells 65 [.str v125, .int .i64 v126, fzL 1 (cInt .u8) v127, .int .i64 v128, .bool v129]]⟩ ?_ (Nat.zero_le _) ?_
                                    · kernel_rfl
                                    refine AWp.skip ?_
                                    refine AWp.start [0, 1, 2] [] [] [5, 7, 22] 1 ⟨[(5, .pc 0 0), (7, .tv (ownL 1 22 (cSl 1 (cInt .u8)) v22)), (22, .tv (.int .i64 (w64 (v111 - (1 : Int)))))], [.cells 65 [.str v125, .int .i64 v126, fzL 1 (cInt .u8) v127, .int .i64 v128, .bool v129]]⟩ rfl ?_ (Nat.zero_le _) trivial ?_
                                    · kernel_rfl
                                    refine AOps.nil ?_
                                    cases h
                                    exact Or.inl ⟨_, rfl, rfl, rfl⟩
                              · replace h := of_false h hb
                                refine AWp.keepTo [5] 1 ⟨[(5, .pc 0 0)], [.cells 65 [.str v112, .int .i64 v113, fzL 1 (cInt .u8) v114, .int .i64 v115, .bool v116]]⟩ ?_ (Nat.zero_le _) ?_
                                · kernel_rfl
                                refine AWp.exit ?_
                                cases h
                                exact Or.inr ⟨_, rfl, by simp, rfl, rfl⟩
                            · intro e σ hp
                              rcases y with v131 | ⟨v117, v118, v119, v120, v121⟩
                              · obtain ⟨rfl, rfl⟩ := hp
                                cases h
                                exact ⟨.inr rfl, rfl⟩
                              · obtain ⟨rfl, rfl⟩ := hp
                                refine AWp.seq ?_
                                refine AWp.start [0] [1, 2, 3, 4, 5, 6] [] [205] 1 ⟨[(205, .pc 0 0)], [.cells 65 [.str v117, .int .i64 v118, fzL 1 (cInt .u8) v119, .int .i64 v120, .bool v121]]⟩ rfl ?_ (Nat.zero_le _) trivial ?_
                                · kernel_rfl
                                obtain ⟨v132, hv132, h⟩ := of_bind h
                                refine AOps.cons (AOne.callR (F := (FF 211 0)) _ rfl rfl rfl _ rfl rfl _ _ rfl Try.call19 [] [.rp [.str v117, .int .i64 v118, fzL 1 (cInt .u8) v119, .int .i64 v120, .bool v121]] rfl trivial (f19_ok (T64.mk v117 v118 v119 v120 v121) hv132) (ind_of rfl) rfl) ?_
                                refine AOps.go [2, 3] [4, 5, 6] [] [208] 0 ⟨[(208, .tv (.bool (v132 == (0 : Int))))], []⟩ ?_ (Nat.zero_le _) trivial ?_
                                · kernel_rfl
                                obtain ⟨v133, hc4, h⟩ := of_bind h
                                refine AOps.cut [4, 5] [6] (fun σ => σ = ⟨[(210, .tv (.bool v133))], []⟩) ?_ fun σ' hJ => ?_
                                · refine AOps.split (fun b => ⟨[(208, .tv (.bool b))], []⟩) _ (fun hb => ?_) fun hb => ?_
                                  · replace hc4 := of_true hc4 hb
                                    obtain ⟨v134, hv134, hc4⟩ := of_bind hc4
                                    refine AOps.cons (AOne.callP (F := (FF 211 0)) _ rfl rfl rfl _ rfl rfl _ _ rfl Try.call9 [] rfl rfl (f9_ok  hv134) rfl) ?_
                                    refine AOps.go [5] [] [] [210] 0 ⟨[(210, .tv (.bool v134))], []⟩ ?_ (Nat.zero_le _) trivial ?_
                                    · kernel_rfl
                                    cases hc4
                                    exact AOps.nil rfl
                                  · replace hc4 := of_false hc4 hb
                                    refine AOps.go [4, 5] [] [] [210] 0 ⟨[(210, .tv (.bool false))], []⟩ ?_ (Nat.zero_le _) trivial ?_
                                    · kernel_rfl
                                    cases hc4
                                    exact AOps.nil rfl
                                subst hJ
                                refine AOps.go [6] [] [] [4] 0 ⟨[(4, .tv (.bool v133))], []⟩ ?_ (Nat.zero_le _) trivial ?_
                                · kernel_rfl
                                refine AOps.nil ?_
                                refine AWp.ret ?_
                                cases h
                                exact ⟨.inr rfl, rfl⟩

end Go.Sx.unit
