/- What the arguments are read as; no condition. -/
import Derived.Test.YtlfaghcnnlifmaaGreatGx6
import Derived.Test.YtlfaghcnnlifmaaGreatSxD
import Derived.Test.YtlfaghcnnlifmaaGreatSxD
namespace Go.Sx.top
open Go Go.Sx Go.Proofs

def G107 (x:T107):Prop:=(x.f0.length ≤ maxLen) ∧ (x.f1.length ≤ maxLen) ∧ True
theorem rd108:Rd Tryz.prog 108 2 c107 G107:=by
 refine Rd.struct (fs:=(match Tryz.t107.desc with | .struct fs=>fs | _=>#[])) (by kernel_rfl) (by kernel_rfl) (fun _=>rfl) (RdFs.cons rfl (Rd.str (by kernel_rfl) (by kernel_rfl)) (RdFs.cons rfl (Rd.str (by kernel_rfl) (by kernel_rfl)) RdFs.nil)) (fun p=>T107.mk p.1 p.2.1) ?_ ?_
 ·exact fun _=>rfl
 ·exact fun _ h=>h
def G86 (x:T86):Prop:=(x.f0.length ≤ maxLen) ∧ (x.f1.length ≤ maxLen) ∧ ((Lit.int .i64 x.f2).wf = true) ∧ True
theorem rd87:Rd Tryz.prog 87 3 c86 G86:=by
 refine Rd.struct (fs:=(match Tryz.t86.desc with | .struct fs=>fs | _=>#[])) (by kernel_rfl) (by kernel_rfl) (fun _=>rfl) (RdFs.cons rfl (Rd.str (by kernel_rfl) (by kernel_rfl)) (RdFs.cons rfl (Rd.str (by kernel_rfl) (by kernel_rfl)) (RdFs.cons rfl (Rd.int .i64 (by kernel_rfl) (by kernel_rfl)) RdFs.nil))) (fun p=>T86.mk p.1 p.2.1 p.2.2.1) ?_ ?_
 ·exact fun _=>rfl
 ·exact fun _ h=>h
def G80 (x:T80):Prop:=(x.f0.length ≤ maxLen) ∧ (x.f1.length ≤ maxLen) ∧ (True) ∧ (x.f3.length ≤ maxLen ∧ ∀ y ∈ x.f3,G86 y) ∧ (x.f4.length ≤ maxLen ∧ ∀ y ∈ x.f4,G107 y) ∧ (x.f5.length ≤ maxLen) ∧ True
theorem rd81:Rd Tryz.prog 81 6 c80 G80:=by
 refine Rd.struct (fs:=(match Tryz.t80.desc with | .struct fs=>fs | _=>#[])) (by kernel_rfl) (by kernel_rfl) (fun _=>rfl) (RdFs.cons rfl (Rd.str (by kernel_rfl) (by kernel_rfl)) (RdFs.cons rfl (Rd.str (by kernel_rfl) (by kernel_rfl)) (RdFs.cons rfl (Rd.bool (by kernel_rfl) (by kernel_rfl)) (RdFs.cons rfl (Rd.slice (e:=87) (by kernel_rfl) (by kernel_rfl) (by decide) rd87) (RdFs.cons rfl (Rd.slice (e:=108) (by kernel_rfl) (by kernel_rfl) (by decide) rd108) (RdFs.cons rfl (Rd.str (by kernel_rfl) (by kernel_rfl)) RdFs.nil)))))) (fun p=>T80.mk p.1 p.2.1 p.2.2.1 p.2.2.2.1 p.2.2.2.2.1 p.2.2.2.2.2.1) ?_ ?_
 ·exact fun _=>rfl
 ·exact fun _ h=>h
def GZ80 (x:T80):Prop:=(x.f0.length ≤ maxLen) ∧ (x.f1.length ≤ maxLen) ∧ (True) ∧ ((x.f3.length ≤ maxLen ∧ x.f3.length * 40 ≤ reachBytes) ∧ ∀ y ∈ x.f3,G86 y) ∧ ((x.f4.length ≤ maxLen ∧ x.f4.length * 32 ≤ reachBytes) ∧ ∀ y ∈ x.f4,G107 y) ∧ (x.f5.length ≤ maxLen) ∧ True
theorem rdz81:RdZ Tryz.prog 81 6 c80 GZ80:=by
 refine RdZ.struct (fs:=(match Tryz.t80.desc with | .struct fs=>fs | _=>#[])) (by kernel_rfl) (by kernel_rfl) (fun _=>rfl) (RdFsZ.cons rfl (RdZ.of (Rd.str (by kernel_rfl) (by kernel_rfl))) (RdFsZ.cons rfl (RdZ.of (Rd.str (by kernel_rfl) (by kernel_rfl))) (RdFsZ.cons rfl (RdZ.of (Rd.bool (by kernel_rfl) (by kernel_rfl))) (RdFsZ.cons rfl (RdZ.slice (e:=87) (B:=40) (by kernel_rfl) (by kernel_rfl) (by decide) (by kernel_rfl) (RdZ.of rd87)) (RdFsZ.cons rfl (RdZ.slice (e:=108) (B:=32) (by kernel_rfl) (by kernel_rfl) (by decide) (by kernel_rfl) (RdZ.of rd108)) (RdFsZ.cons rfl (RdZ.of (Rd.str (by kernel_rfl) (by kernel_rfl))) RdFsZ.nil)))))) (fun p=>T80.mk p.1 p.2.1 p.2.2.1 p.2.2.2.1 p.2.2.2.2.1 p.2.2.2.2.2.1) ?_ ?_
 ·exact fun _=>rfl
 ·exact fun _ h=>h

def LawTopTypes:Prop:=∀ (a0:List T80) (a1:List UInt8) (a2:List UInt8),((a0.length ≤ maxLen ∧ a0.length * 104 ≤ reachBytes) ∧ ∀ y ∈ a0,GZ80 y) → (a1.length ≤ maxLen) → (a2.length ≤ maxLen) → f4 a0 a1 a2 = some true

end Go.Sx.top
