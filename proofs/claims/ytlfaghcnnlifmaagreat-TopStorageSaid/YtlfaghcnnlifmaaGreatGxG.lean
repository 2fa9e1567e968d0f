/- What the arguments are read as; no condition. -/
import Derived.Test.YtlfaghcnnlifmaaGreatGx6
import Derived.Test.YtlfaghcnnlifmaaGreatSxD
namespace Go.Sx.top
open Go Go.Sx Go.Proofs

def G25 (x:T25):Prop:=(x.f0.length ≤ maxLen) ∧ ((Lit.int .i64 x.f1).wf = true) ∧ ((Lit.int .i64 x.f2).wf = true) ∧ True
theorem rd26:Rd Tryz.prog 26 3 c25 G25:=by
 refine Rd.struct (fs:=(match Tryz.t25.desc with | .struct fs=>fs | _=>#[])) (by kernel_rfl) (by kernel_rfl) (fun _=>rfl) (RdFs.cons rfl (Rd.str (by kernel_rfl) (by kernel_rfl)) (RdFs.cons rfl (Rd.int .i64 (by kernel_rfl) (by kernel_rfl)) (RdFs.cons rfl (Rd.int .i64 (by kernel_rfl) (by kernel_rfl)) RdFs.nil))) (fun p=>T25.mk p.1 p.2.1 p.2.2.1) ?_ ?_
 ·exact fun _=>rfl
 ·exact fun _ h=>h
def G37 (x:T37):Prop:=(x.f0.length ≤ maxLen) ∧ ((Lit.int .i64 x.f1).wf = true) ∧ True
theorem rd38:Rd Tryz.prog 38 2 c37 G37:=by
 refine Rd.struct (fs:=(match Tryz.t37.desc with | .struct fs=>fs | _=>#[])) (by kernel_rfl) (by kernel_rfl) (fun _=>rfl) (RdFs.cons rfl (Rd.str (by kernel_rfl) (by kernel_rfl)) (RdFs.cons rfl (Rd.int .i64 (by kernel_rfl) (by kernel_rfl)) RdFs.nil)) (fun p=>T37.mk p.1 p.2.1) ?_ ?_
 ·exact fun _=>rfl
 ·exact fun _ h=>h

def LawTopStorage:Prop:=∀ (a0:List T25) (a1:List (List T37)) (a2:List (List (List UInt8))),(a0.length ≤ maxLen ∧ ∀ y ∈ a0,G25 y) → (a1.length ≤ maxLen ∧ ∀ y ∈ a1,(y.length ≤ maxLen ∧ ∀ y' ∈ y,G37 y')) → (a2.length ≤ maxLen ∧ ∀ y ∈ a2,(y.length ≤ maxLen ∧ ∀ y' ∈ y,y'.length ≤ maxLen)) → f3 a0 a1 a2 = some true

end Go.Sx.top
