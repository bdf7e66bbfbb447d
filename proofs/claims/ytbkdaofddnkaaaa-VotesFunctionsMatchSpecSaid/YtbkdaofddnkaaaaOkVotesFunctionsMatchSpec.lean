-- written by rowgen.py, a program of this repo
import Derived.Test.YtbkdaofddnkaaaaPVox13
import Derived.Test.YtbkdaofddnkaaaaOpens
import Derived.KernelRfl
namespace Go.Proofs.Ytbkdaofddnkaaaa.PVo
open Go.RowKit Go.Proofs.YtbkdaofddnkaaaaW.PrintWords Go.Proofs.YtbkdaofddnkaaaaW.PrintLast Go.Proofs.Ytbkdaofddnkaaaa
set_option linter.unusedVariables false
def Ok35 (x : S35) : Prop := ((Lit.int .i64 x.f0).wf = true) ∧ ((Lit.int .i64 x.f1).wf = true) ∧ ((Lit.int .i64 x.f2).wf = true)
theorem op35 : Opn.Opens Try.prog (Opn.reach Try.prog) 35 k35 Ok35 :=
  Opn.Opens.mono (Opn.Opens.struct (fun x : S35 => (x.f0, x.f1, x.f2)) (fun p => ⟨p.1, p.2.1, p.2.2⟩) (fun _ => rfl) Try.underlying35 (by kernel_rfl) (Opn.OpensFs.cons rfl (by kernel_rfl) (Opn.Opens.int Try.underlying3) (Opn.OpensFs.cons rfl (by kernel_rfl) (Opn.Opens.int Try.underlying3) (Opn.OpensFs.last rfl (by kernel_rfl) (Opn.Opens.int Try.underlying3))))) (fun _ h => h)
/-- THE ONE PURE STATEMENT. -/
def changeforgelaw7_VotesFunctionsMatchSpec.Pure : Prop := ∀ (x0 : List (S35)) (x1 : List Bool) (x2 : Int), ((x0.length * 24 ≤ 140737488351232) ∧ x0.length ≤ maxLen ∧ ∀ y_ ∈ x0, Ok35 y_) → ((x1.length * 1 ≤ 140737488351232) ∧ x1.length ≤ maxLen ∧ ∀ y_ ∈ x1, True) → ((Lit.int .i64 x2).wf = true) → ∃ k, changeforgelaw7_VotesFunctionsMatchSpec.f k x0 x1 x2 = some true
end Go.Proofs.Ytbkdaofddnkaaaa.PVo
