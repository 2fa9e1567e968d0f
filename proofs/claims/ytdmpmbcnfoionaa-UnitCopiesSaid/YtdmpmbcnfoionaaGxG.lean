/- What the arguments are read as; no condition. -/
import Derived.Test.YtdmpmbcnfoionaaGx7
import Derived.Test.YtdmpmbcnfoionaaSxD
namespace Go.Sx.unit
open Go Go.Sx Go.Proofs

def G32 (x:T32):Prop:=(x.f0.length ≤ maxLen) ∧ ((Lit.int .i64 x.f1).wf = true) ∧ (x.f2.length ≤ maxLen ∧ ∀ y ∈ x.f2,(Lit.int .u8 y).wf = true) ∧ True
theorem rd33:Rd Try.prog 33 3 c32 G32:=by
 refine Rd.struct (fs:=(match Try.t32.desc with | .struct fs=>fs | _=>#[])) (by kernel_rfl) (by kernel_rfl) (fun _=>rfl) (RdFs.cons rfl (Rd.str (by kernel_rfl) (by kernel_rfl)) (RdFs.cons rfl (Rd.int .i64 (by kernel_rfl) (by kernel_rfl)) (RdFs.cons rfl (Rd.slice (e:=5) (by kernel_rfl) (by kernel_rfl) (by decide) (Rd.int .u8 (by kernel_rfl) (by kernel_rfl))) RdFs.nil))) (fun p=>T32.mk p.1 p.2.1 p.2.2.1) ?_ ?_
 ·exact fun _=>rfl
 ·exact fun _ h=>h
def G46 (x:T46):Prop:=((Lit.int .i64 x.f0).wf = true) ∧ ((Lit.int .i64 x.f1).wf = true) ∧ ((Lit.int .i64 x.f2).wf = true) ∧ (x.f3.length ≤ maxLen ∧ ∀ y ∈ x.f3,(Lit.int .u8 y).wf = true) ∧ True
theorem rd47:Rd Try.prog 47 4 c46 G46:=by
 refine Rd.struct (fs:=(match Try.t46.desc with | .struct fs=>fs | _=>#[])) (by kernel_rfl) (by kernel_rfl) (fun _=>rfl) (RdFs.cons rfl (Rd.int .i64 (by kernel_rfl) (by kernel_rfl)) (RdFs.cons rfl (Rd.int .i64 (by kernel_rfl) (by kernel_rfl)) (RdFs.cons rfl (Rd.int .i64 (by kernel_rfl) (by kernel_rfl)) (RdFs.cons rfl (Rd.slice (e:=5) (by kernel_rfl) (by kernel_rfl) (by decide) (Rd.int .u8 (by kernel_rfl) (by kernel_rfl))) RdFs.nil)))) (fun p=>T46.mk p.1 p.2.1 p.2.2.1 p.2.2.2.1) ?_ ?_
 ·exact fun _=>rfl
 ·exact fun _ h=>h

def LawUnitCopies:Prop:=∀ (a0:T32) (a1:List T46) (a2:List T46),(G32 a0) → (a1.length ≤ maxLen ∧ ∀ y ∈ a1,G46 y) → (a2.length ≤ maxLen ∧ ∀ y ∈ a2,G46 y) → f7 a0 a1 a2 = some true

end Go.Sx.unit
