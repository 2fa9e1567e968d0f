/- What the arguments are read as; no condition. -/
import Derived.Test.YtdmpmbcnfoionaaGx2
import Derived.Test.YtdmpmbcnfoionaaSxC
namespace Go.Sx.unit
open Go Go.Sx Go.Proofs

def G32 (x : T32) : Prop := (x.f0.length ≤ maxLen) ∧ ((Lit.int .i64 x.f1).wf = true) ∧ (x.f2.length ≤ maxLen ∧ ∀ y ∈ x.f2, (Lit.int .u8 y).wf = true) ∧ True
theorem rd33 : Rd Try.prog 33 3 c32 G32 := by
  refine Rd.struct (fs := (match Try.t32.desc with | .struct fs => fs | _ => #[])) (by kernel_rfl) (by kernel_rfl) (fun _ => rfl) (RdFs.cons rfl (Rd.str (by kernel_rfl) (by kernel_rfl)) (RdFs.cons rfl (Rd.int .i64 (by kernel_rfl) (by kernel_rfl)) (RdFs.cons rfl (Rd.slice (e := 5) (by kernel_rfl) (by kernel_rfl) (by decide) (Rd.int .u8 (by kernel_rfl) (by kernel_rfl))) RdFs.nil))) (fun p => T32.mk p.1 p.2.1 p.2.2.1) ?_ ?_
  · exact fun _ => rfl
  · exact fun _ h => h

def LawUnitSplits : Prop := ∀ (a0 : List Int) (a1 : List (List Int)), (a0.length ≤ maxLen ∧ ∀ y ∈ a0, (Lit.int .u8 y).wf = true) → (a1.length ≤ maxLen ∧ ∀ y ∈ a1, (y.length ≤ maxLen ∧ ∀ y' ∈ y, (Lit.int .u8 y').wf = true)) → f3 a0 a1 = some true

def LawUnitBack : Prop := ∀ (a0 : T32) (a1 : List (List Int)), (G32 a0) → (a1.length ≤ maxLen ∧ ∀ y ∈ a1, (y.length ≤ maxLen ∧ ∀ y' ∈ y, (Lit.int .u8 y').wf = true)) → f4 a0 a1 = some true

end Go.Sx.unit
