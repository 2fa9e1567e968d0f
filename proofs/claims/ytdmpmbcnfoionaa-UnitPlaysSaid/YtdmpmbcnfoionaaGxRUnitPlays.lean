/- The row of the law UnitPlays: for every input the law returns true; no condition. -/
import Derived.Test.YtdmpmbcnfoionaaRows
import Derived.Test.YtdmpmbcnfoionaaGxQ0
import Derived.WalkKit
import Derived.ProofKit
import Derived.OpenShut
import Derived.ShutString
import Derived.ChangeOld
import Derived.Below
import Derived.SizedLaws
namespace Go.Proofs.Ytdmpmbcnfoionaa.unitPlays
open Go.ChangeShapes Go.WideShapes Go.ChangeAt Go.RowKit Go.Sx Go.Sx.unit
open Go.ChangeMaps (open_string shut_string)
set_option linter.unusedVariables false
theorem own : ownKnob Try.prog.godebug = none := by kernel_rfl
theorem laidOut : laidOutB Try.prog = true := by kernel_rfl
set_option maxRecDepth 100000 in
theorem lifted (os : Os) (started : os.Started) (H : Type) (enc : TypeId × Value → H) :
  ReturnsInHanded {} Try.checked os 6 .any (Rows.unitPlaysSpec.pre6 enc Try.prog Try.f6 Rows.unitPlaysRow.domain false) (Rows.unitPlaysSpec.post enc Try.prog Try.f6 false true false false) := by
 refine returnsInHanded_of_change_sized (C := Try.checked) own started (by kernel_rfl) Try.func6
  (ChangeSpec.witness6 (enc := enc) (C := Try.checked) false ⟨#[],#[(.agg #[(.string ⟨#[]⟩),(.int .i64 (0)),(.slice none 0 0)]),(.slice none 0 0)],[]⟩ 8 (by kernel_rfl) (by kernel_rfl) (by kernel_rfl) (by kernel_rfl)) ?_
 intro W base args ds gs before hval0 hW hcnd hsz0 _
 have hval : ∀ (j : Nat) t v,Try.f6.params[j]? = some t → args[j]? = some v → Value.okWide Try.prog W .any base t v := hval0
 have hW' := hW
 obtain ⟨p,q,hA0,hV,rfl,hfz,hnd⟩ := hW
 have hA : DataW.TrodAll enc Try.prog W 0 (fun _ => true) true Try.f6.params.toList args.toList ds p := hA0
 rw [Try.params6] at hA hval
 obtain ⟨v0,vs0,d0,ds0,p0,q0,hargs,rfl,rfl,h0,r0⟩ := trodAll_cons hA
 obtain ⟨v1,vs1,d1,ds1,p1,q1,rfl,rfl,rfl,h1,r1⟩ := trodAll_cons r0
 obtain ⟨rfl,rfl,rfl⟩ := trodAll_nil r1
 obtain rfl : args = #[v0,v1] := by cases args; simp_all
 obtain ⟨rfl,rfl⟩ := trodVars_none hV
 have k0 := h0
 have lt0 : ∀ x ∈ p0,x.block < W.heap.size := by obtain ⟨m,hm⟩ := k0; exact DataW.trod_lt m _ _ _ hm
 have w0 := (hval 0 33 v0 rfl rfl)
 unfold Value.okWide at w0
 rw [Try.underlying33] at w0
 obtain ⟨cs0,rfl,sz0,_⟩ := w0
 obtain ⟨fuel0,hf0⟩ := h0
 obtain ⟨a0,g0,l0,c0⟩ := rd33.rd _ _ _ _ _ _ _ _ hf0
 have k1 := h1
 have lt1 : ∀ x ∈ p1,x.block < W.heap.size := by obtain ⟨m,hm⟩ := k1; exact DataW.trod_lt m _ _ _ hm
 obtain ⟨A1,len1,cap1,rfl⟩ := okWide_slice Try.underlying48 (hval 1 48 v1 rfl rfl)
 obtain ⟨fuel1,hf1⟩ := h1
 obtain ⟨a1,g1,l1,c1⟩ := (Rd.slice (e := 47) (by kernel_rfl) (by kernel_rfl) (by decide) rd47).rd _ _ _ _ _ _ _ _ hf1
 refine (ACall.law (f6_ok a0 a1 (Pure.UnitPlays a0 a1 g0 g1)) (ArgsOk.cons (ArgOk.agg (by simpa using l0) c0) (ArgsOk.cons (ArgOk.one (CR.get c1)) ArgsOk.nil))).mono fun e W' ⟨he,bel⟩ => ?_
 subst he
 exact ⟨_,rfl,_,_,_,[],_,[],hW',trodAll_mk1 (shut_bool Try.underlying4 _),(trodAll_cons_mk (Below.trod laidOut (by kernel_rfl) (of_decide_eq_true (by kernel_rfl)) k0 bel lt0) (trodAll_cons_mk (Below.trod laidOut (by kernel_rfl) (of_decide_eq_true (by kernel_rfl)) k1 bel lt1) trodAll_mk0)),rfl,bel.frame _,fun h => by cases h⟩
theorem over : Rows.unitPlaysRow.holds Try.pinned (OpenSpec.ofChange Rows.unitPlaysSpec) :=
 OpenClaim.holds_of_wide 6 Try.f6 rfl rfl rfl rfl rfl rfl rfl ⟨rfl,rfl,rfl,rfl,rfl⟩ rfl rfl rfl rfl rfl (by kernel_rfl) Try.func6 (by kernel_rfl)
  (of_decide_eq_true (by kernel_rfl)) (by unfold Func.isWrapper; first | (rw [if_pos (by decide +kernel)]; kernel_rfl) | (rw [if_neg (by decide +kernel)]; exact ⟨rfl,rfl⟩))
  (fun os started H enc _ => lifted os started H enc)
theorem proved : Rows.UnitPlaysSaid := over
#print axioms proved
end Go.Proofs.Ytdmpmbcnfoionaa.unitPlays
namespace Go.Proofs.Ytdmpmbcnfoionaa
/-- The row, under a short name, for the claim. -/
theorem unitPlays_holds : Rows.UnitPlaysSaid := unitPlays.proved
end Go.Proofs.Ytdmpmbcnfoionaa
