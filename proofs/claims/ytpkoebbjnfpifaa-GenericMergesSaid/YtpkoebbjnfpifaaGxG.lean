/- What the arguments are read as; no condition. -/
import Derived.Test.YtpkoebbjnfpifaaGx3
import Derived.Test.YtpkoebbjnfpifaaSxC
namespace Go.Sx.gen
open Go Go.Sx Go.Proofs

def G48 (x : T48) : Prop := ((Lit.int .i64 x.f0).wf = true) ∧ ((Lit.int .i64 x.f1).wf = true) ∧ (True) ∧ True
theorem rd49 : Rd Try.prog 49 3 c48 G48 := by
  refine Rd.struct (fs := (match Try.t48.desc with | .struct fs => fs | _ => #[])) (by kernel_rfl) (by kernel_rfl) (fun _ => rfl) (RdFs.cons rfl (Rd.int .i64 (by kernel_rfl) (by kernel_rfl)) (RdFs.cons rfl (Rd.int .i64 (by kernel_rfl) (by kernel_rfl)) (RdFs.cons rfl (Rd.bool (by kernel_rfl) (by kernel_rfl)) RdFs.nil))) (fun p => T48.mk p.1 p.2.1 p.2.2.1) ?_ ?_
  · exact fun _ => rfl
  · exact fun _ h => h
def G31 (x : T31) : Prop := (x.f0.length ≤ maxLen) ∧ (x.f1.length ≤ maxLen ∧ ∀ y ∈ x.f1, G48 y) ∧ True
theorem rd32 : Rd Try.prog 32 2 c31 G31 := by
  refine Rd.struct (fs := (match Try.t31.desc with | .struct fs => fs | _ => #[])) (by kernel_rfl) (by kernel_rfl) (fun _ => rfl) (RdFs.cons rfl (Rd.str (by kernel_rfl) (by kernel_rfl)) (RdFs.cons rfl (Rd.slice (e := 49) (by kernel_rfl) (by kernel_rfl) (by decide) rd49) RdFs.nil)) (fun p => T31.mk p.1 p.2.1) ?_ ?_
  · exact fun _ => rfl
  · exact fun _ h => h

def LawGenericResolves : Prop := ∀ (a0 : List T31) (a1 : List T48), (a0.length ≤ maxLen ∧ ∀ y ∈ a0, G31 y) → (a1.length ≤ maxLen ∧ ∀ y ∈ a1, G48 y) → f3 a0 a1 = some true

def LawGenericFits : Prop := ∀ (a0 : T31) (a1 : List T48), (G31 a0) → (a1.length ≤ maxLen ∧ ∀ y ∈ a1, G48 y) → f4 a0 a1 = some true

def LawGenericChecks : Prop := ∀ (a0 : List T31), (a0.length ≤ maxLen ∧ ∀ y ∈ a0, G31 y) → f5 a0 = some true

def LawGenericOrders : Prop := ∀ (a0 : List T31) (a1 : List T48) (a2 : Int), (a0.length ≤ maxLen ∧ ∀ y ∈ a0, G31 y) → (a1.length ≤ maxLen ∧ ∀ y ∈ a1, G48 y) → ((Lit.int .i64 a2).wf = true) → f6 a0 a1 a2 = some true

def LawGenericPairs : Prop := ∀ (a0 : T31) (a1 : T31), (G31 a0) → (G31 a1) → f7 a0 a1 = some true

def LawGenericMeets : Prop := ∀ (a0 : T31) (a1 : T31) (a2 : List T48), (G31 a0) → (G31 a1) → (a2.length ≤ maxLen ∧ ∀ y ∈ a2, G48 y) → f8 a0 a1 a2 = some true

def LawGenericMerges : Prop := ∀ (a0 : List T31) (a1 : List T31), (a0.length ≤ maxLen ∧ ∀ y ∈ a0, G31 y) → (a1.length ≤ maxLen ∧ ∀ y ∈ a1, G31 y) → f9 a0 a1 = some true

end Go.Sx.gen
