/- What the arguments are read as; no condition. -/
import Derived.Test.YtplfiblnmnpllaaGx6
import Derived.Test.YtplfiblnmnpllaaSxC
namespace Go.Sx.der
open Go Go.Sx Go.Proofs

def G94 (x : T94) : Prop := (x.f0.length ≤ maxLen) ∧ (x.f1.length ≤ maxLen) ∧ True
theorem rd95 : Rd Try.prog 95 2 c94 G94 := by
  refine Rd.struct (fs := (match Try.t94.desc with | .struct fs => fs | _ => #[])) (by kernel_rfl) (by kernel_rfl) (fun _ => rfl) (RdFs.cons rfl (Rd.str (by kernel_rfl) (by kernel_rfl)) (RdFs.cons rfl (Rd.str (by kernel_rfl) (by kernel_rfl)) RdFs.nil)) (fun p => T94.mk p.1 p.2.1) ?_ ?_
  · exact fun _ => rfl
  · exact fun _ h => h
def G35 (x : T35) : Prop := (x.f0.length ≤ maxLen) ∧ (x.f1.length ≤ maxLen) ∧ ((Lit.int .i64 x.f2).wf = true) ∧ True
theorem rd36 : Rd Try.prog 36 3 c35 G35 := by
  refine Rd.struct (fs := (match Try.t35.desc with | .struct fs => fs | _ => #[])) (by kernel_rfl) (by kernel_rfl) (fun _ => rfl) (RdFs.cons rfl (Rd.str (by kernel_rfl) (by kernel_rfl)) (RdFs.cons rfl (Rd.str (by kernel_rfl) (by kernel_rfl)) (RdFs.cons rfl (Rd.int .i64 (by kernel_rfl) (by kernel_rfl)) RdFs.nil))) (fun p => T35.mk p.1 p.2.1 p.2.2.1) ?_ ?_
  · exact fun _ => rfl
  · exact fun _ h => h
def G62 (x : T62) : Prop := (x.f0.length ≤ maxLen) ∧ (x.f1.length ≤ maxLen) ∧ (True) ∧ (x.f3.length ≤ maxLen ∧ ∀ y ∈ x.f3, G35 y) ∧ (x.f4.length ≤ maxLen ∧ ∀ y ∈ x.f4, G94 y) ∧ (x.f5.length ≤ maxLen) ∧ True
theorem rd63 : Rd Try.prog 63 6 c62 G62 := by
  refine Rd.struct (fs := (match Try.t62.desc with | .struct fs => fs | _ => #[])) (by kernel_rfl) (by kernel_rfl) (fun _ => rfl) (RdFs.cons rfl (Rd.str (by kernel_rfl) (by kernel_rfl)) (RdFs.cons rfl (Rd.str (by kernel_rfl) (by kernel_rfl)) (RdFs.cons rfl (Rd.bool (by kernel_rfl) (by kernel_rfl)) (RdFs.cons rfl (Rd.slice (e := 36) (by kernel_rfl) (by kernel_rfl) (by decide) rd36) (RdFs.cons rfl (Rd.slice (e := 95) (by kernel_rfl) (by kernel_rfl) (by decide) rd95) (RdFs.cons rfl (Rd.str (by kernel_rfl) (by kernel_rfl)) RdFs.nil)))))) (fun p => T62.mk p.1 p.2.1 p.2.2.1 p.2.2.2.1 p.2.2.2.2.1 p.2.2.2.2.2.1) ?_ ?_
  · exact fun _ => rfl
  · exact fun _ h => h

def LawDeriveFinals : Prop := ∀ (a0 : List T62) (a1 : List UInt8), (a0.length ≤ maxLen ∧ ∀ y ∈ a0, G62 y) → (a1.length ≤ maxLen) → f10 a0 a1 = some true

end Go.Sx.der
