/- What the arguments are read as; no condition. -/
import Derived.Test.YtgabiokgockopaaGx2
import Derived.Test.YtgabiokgockopaaSxC
namespace Go.Sx.sto
open Go Go.Sx Go.Proofs

def G36 (x : T36) : Prop := (x.f0.length ≤ maxLen) ∧ ((Lit.int .i64 x.f1).wf = true) ∧ ((Lit.int .i64 x.f2).wf = true) ∧ True
theorem rd37 : Rd Try.prog 37 3 c36 G36 := by
 refine Rd.struct (fs := (match Try.t36.desc with | .struct fs => fs | _ => #[])) (by kernel_rfl) (by kernel_rfl) (fun _ => rfl) (RdFs.cons rfl (Rd.str (by kernel_rfl) (by kernel_rfl)) (RdFs.cons rfl (Rd.int .i64 (by kernel_rfl) (by kernel_rfl)) (RdFs.cons rfl (Rd.int .i64 (by kernel_rfl) (by kernel_rfl)) RdFs.nil))) (fun p => T36.mk p.1 p.2.1 p.2.2.1) ?_ ?_
 ·exact fun _ => rfl
 ·exact fun _ h => h
def G34 (x : T34) : Prop := (x.f0.length ≤ maxLen) ∧ ((Lit.int .i64 x.f1).wf = true) ∧ True
theorem rd35 : Rd Try.prog 35 2 c34 G34 := by
 refine Rd.struct (fs := (match Try.t34.desc with | .struct fs => fs | _ => #[])) (by kernel_rfl) (by kernel_rfl) (fun _ => rfl) (RdFs.cons rfl (Rd.str (by kernel_rfl) (by kernel_rfl)) (RdFs.cons rfl (Rd.int .i64 (by kernel_rfl) (by kernel_rfl)) RdFs.nil)) (fun p => T34.mk p.1 p.2.1) ?_ ?_
 ·exact fun _ => rfl
 ·exact fun _ h => h

def LawStorageOrder : Prop := ∀ (a0 : List T36) (a1 : List (List T34)) (a2 : List (List (List UInt8))), (a0.length ≤ maxLen ∧ ∀ y ∈ a0, G36 y) → ((a1.length ≤ maxLen ∧ a1.length * 24 ≤ reachBytes) ∧ ∀ y ∈ a1, ((y.length ≤ maxLen ∧ y.length * 24 ≤ reachBytes) ∧ ∀ y' ∈ y, G34 y')) → (a2.length ≤ maxLen ∧ ∀ y ∈ a2, (y.length ≤ maxLen ∧ ∀ y' ∈ y, y'.length ≤ maxLen)) → f5 a0 a1 a2 = some true

end Go.Sx.sto
