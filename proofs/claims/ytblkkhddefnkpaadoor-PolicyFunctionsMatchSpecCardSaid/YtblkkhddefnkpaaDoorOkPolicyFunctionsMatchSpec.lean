-- written by rowgen.py, a program of this repo
import Derived.Test.YtblkkhddefnkpaaDoorPPox1
import Derived.Test.YtblkkhddefnkpaaDoorPPov70
import Derived.Test.YtblkkhddefnkpaaDoorOpens
import Derived.KernelRfl
namespace Go.Proofs.YtblkkhddefnkpaaDoor.PPo
open Go.RowKit Go.Proofs.YtblkkhddefnkpaaDoorW.PrintWords Go.Proofs.YtblkkhddefnkpaaDoorW.PrintLast Go.Proofs.YtblkkhddefnkpaaDoor
set_option linter.unusedVariables false
def Ok47 (x : S47) : Prop := ((Lit.int .i64 x.f0).wf = true) ∧ ((Lit.int .i64 x.f1).wf = true) ∧ ((Lit.int .i64 x.f2).wf = true) ∧ ((Lit.int .i64 x.f3).wf = true)
theorem op47 : Opn.Opens Tryd.prog (Opn.reach Tryd.prog) 47 k47 Ok47 :=
  Opn.Opens.mono (Opn.Opens.struct (fun x : S47 => (x.f0, x.f1, x.f2, x.f3)) (fun p => ⟨p.1, p.2.1, p.2.2.1, p.2.2.2⟩) (fun _ => rfl) Tryd.underlying47 (by kernel_rfl) (Opn.OpensFs.cons rfl (by kernel_rfl) (Opn.Opens.int Tryd.underlying3) (Opn.OpensFs.cons rfl (by kernel_rfl) (Opn.Opens.int Tryd.underlying3) (Opn.OpensFs.cons rfl (by kernel_rfl) (Opn.Opens.int Tryd.underlying3) (Opn.OpensFs.last rfl (by kernel_rfl) (Opn.Opens.int Tryd.underlying3)))))) (fun _ h => h)
def Ok24 (x : S24) : Prop := ((x.f0.length * 32 ≤ 140737488351232) ∧ x.f0.length ≤ maxLen ∧ ∀ y_ ∈ x.f0, Ok47 y_)
theorem op24 : Opn.Opens Tryd.prog (Opn.reach Tryd.prog) 24 k24 Ok24 :=
  Opn.Opens.mono (Opn.Opens.struct (fun x : S24 => x.f0) (fun p => ⟨p⟩) (fun _ => rfl) Tryd.underlying24 (by kernel_rfl) (Opn.OpensFs.last rfl (by kernel_rfl) (Opn.Opens.slice (e := 47) (B := 32) Tryd.underlying22 (by kernel_rfl) (by kernel_rfl) op47))) (fun _ h => h)
def Ok26 (x : S26) : Prop := ((Lit.int .i64 x.f0).wf = true) ∧ (True) ∧ (True) ∧ ((Lit.int .i64 x.f3).wf = true)
theorem op26 : Opn.Opens Tryd.prog (Opn.reach Tryd.prog) 26 k26 Ok26 :=
  Opn.Opens.mono (Opn.Opens.struct (fun x : S26 => (x.f0, x.f1, x.f2, x.f3)) (fun p => ⟨p.1, p.2.1, p.2.2.1, p.2.2.2⟩) (fun _ => rfl) Tryd.underlying26 (by kernel_rfl) (Opn.OpensFs.cons rfl (by kernel_rfl) (Opn.Opens.int Tryd.underlying3) (Opn.OpensFs.cons rfl (by kernel_rfl) (Opn.Opens.bool Tryd.underlying4) (Opn.OpensFs.cons rfl (by kernel_rfl) (Opn.Opens.bool Tryd.underlying4) (Opn.OpensFs.last rfl (by kernel_rfl) (Opn.Opens.int Tryd.underlying3)))))) (fun _ h => h)
/-- THE ONE PURE STATEMENT. -/
def qe_.Pure : Prop := ∀ (x0 : S24) (x1 : S26), (Ok24 x0) → (Ok26 x1) → ∃ k, qe_.f k x0.f0 x1.f0 x1.f1 x1.f2 x1.f3 = some true
end Go.Proofs.YtblkkhddefnkpaaDoor.PPo
