-- written by rowgen.py, a program of this repo
import Derived.Test.YtblkkhddefnkpaaDoorPs
import Derived.Test.YtblkkhddefnkpaaDoorPPoz63
import Derived.Test.YtblkkhddefnkpaaDoorOpens
import Derived.KernelRfl
namespace Go.Proofs.YtblkkhddefnkpaaDoor.PPo
open Go.RowKit Go.Proofs.YtblkkhddefnkpaaDoorW.PrintWords Go.Proofs.YtblkkhddefnkpaaDoorW.PrintLast Go.Proofs.YtblkkhddefnkpaaDoor
set_option linter.unusedVariables false
def Ok47 (x : S47) : Prop := ((Lit.int .i64 x.f0).wf = true) ∧ ((Lit.int .i64 x.f1).wf = true) ∧ ((Lit.int .i64 x.f2).wf = true) ∧ ((Lit.int .i64 x.f3).wf = true)
theorem op47 : Opn.Opens Tryd.prog (Opn.reach Tryd.prog) 47 k47 Ok47 :=
  Opn.Opens.mono (Opn.Opens.struct (fun x : S47 => (x.f0, x.f1, x.f2, x.f3)) (fun p => ⟨p.1, p.2.1, p.2.2.1, p.2.2.2⟩) (fun _ => rfl) Tryd.underlying47 (by kernel_rfl) (Opn.OpensFs.cons rfl (by kernel_rfl) (Opn.Opens.int Tryd.underlying3) (Opn.OpensFs.cons rfl (by kernel_rfl) (Opn.Opens.int Tryd.underlying3) (Opn.OpensFs.cons rfl (by kernel_rfl) (Opn.Opens.int Tryd.underlying3) (Opn.OpensFs.last rfl (by kernel_rfl) (Opn.Opens.int Tryd.underlying3)))))) (fun _ h => h)
def Ok24 (x : S24) : Prop := ((x.f0.length * 32 ≤ 140737488351232) ∧ x.f0.length ≤ maxLen ∧ ∀ y_ ∈ x.f0, Ok47 y_)
theorem op24 : Opn.Opens Tryd.prog (Opn.reach Tryd.prog) 24 k24 Ok24 :=
  Opn.Opens.mono (Opn.Opens.struct (fun x : S24 => x.f0) (fun p => ⟨p⟩) (fun _ => rfl) Tryd.underlying24 (by kernel_rfl) (Opn.OpensFs.last rfl (by kernel_rfl) (Opn.Opens.slice (e := 47) (B := 32) Tryd.underlying22 (by kernel_rfl) (by kernel_rfl) op47))) (fun _ h => h)
/-- THE ONE PURE STATEMENT. -/
def changeforgelaw7_PolicyFormatRoundTrip.Pure : Prop := ∀ (x0 : S24), (Ok24 x0) → ∃ k, changeforgelaw7_PolicyFormatRoundTrip.f k x0.f0 = some true
end Go.Proofs.YtblkkhddefnkpaaDoor.PPo
