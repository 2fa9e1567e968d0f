/- What the arguments are read as; no condition. -/
import Derived.Test.YtgabiokgockopaaGx3
import Derived.Test.YtgabiokgockopaaSxD
namespace Go.Sx.sto
open Go Go.Sx Go.Proofs

def G36 (x : T36) : Prop := (x.f0.length ≤ maxLen) ∧ ((Lit.int .i64 x.f1).wf = true) ∧ ((Lit.int .i64 x.f2).wf = true) ∧ True
theorem rd37 : Rd Try.prog 37 3 c36 G36 := by
  refine Rd.struct (fs := (match Try.t36.desc with | .struct fs => fs | _ => #[])) (by kernel_rfl) (by kernel_rfl) (fun _ => rfl) (RdFs.cons rfl (Rd.str (by kernel_rfl) (by kernel_rfl)) (RdFs.cons rfl (Rd.int .i64 (by kernel_rfl) (by kernel_rfl)) (RdFs.cons rfl (Rd.int .i64 (by kernel_rfl) (by kernel_rfl)) RdFs.nil))) (fun p => T36.mk p.1 p.2.1 p.2.2.1) ?_ ?_
  · exact fun _ => rfl
  · exact fun _ h => h
def G34 (x : T34) : Prop := (x.f0.length ≤ maxLen) ∧ ((Lit.int .i64 x.f1).wf = true) ∧ True
theorem rd35 : Rd Try.prog 35 2 c34 G34 := by
  refine Rd.struct (fs := (match Try.t34.desc with | .struct fs => fs | _ => #[])) (by kernel_rfl) (by kernel_rfl) (fun _ => rfl) (RdFs.cons rfl (Rd.str (by kernel_rfl) (by kernel_rfl)) (RdFs.cons rfl (Rd.int .i64 (by kernel_rfl) (by kernel_rfl)) RdFs.nil)) (fun p => T34.mk p.1 p.2.1) ?_ ?_
  · exact fun _ => rfl
  · exact fun _ h => h
def G42 (x : T42) : Prop := (x.f0.length ≤ maxLen ∧ ∀ y ∈ x.f0, (Lit.int .i64 y).wf = true) ∧ (x.f1.length ≤ maxLen ∧ ∀ y ∈ x.f1, (Lit.int .i64 y).wf = true) ∧ (G34 x.f2) ∧ (G34 x.f3) ∧ True
theorem rd43 : Rd Try.prog 43 6 c42 G42 := by
  refine Rd.struct (fs := (match Try.t42.desc with | .struct fs => fs | _ => #[])) (by kernel_rfl) (by kernel_rfl) (fun _ => rfl) (RdFs.cons rfl (Rd.slice (e := 3) (by kernel_rfl) (by kernel_rfl) (by decide) (Rd.int .i64 (by kernel_rfl) (by kernel_rfl))) (RdFs.cons rfl (Rd.slice (e := 3) (by kernel_rfl) (by kernel_rfl) (by decide) (Rd.int .i64 (by kernel_rfl) (by kernel_rfl))) (RdFs.cons rfl rd35 (RdFs.cons rfl rd35 RdFs.nil)))) (fun p => T42.mk p.1 p.2.1 p.2.2.1 p.2.2.2.1) ?_ ?_
  · exact fun _ => rfl
  · exact fun _ h => h

def LawStorageOverlaps : Prop := ∀ (a0 : List T36) (a1 : T42), (a0.length ≤ maxLen ∧ ∀ y ∈ a0, G36 y) → (G42 a1) → f8 a0 a1 = some true

end Go.Sx.sto
