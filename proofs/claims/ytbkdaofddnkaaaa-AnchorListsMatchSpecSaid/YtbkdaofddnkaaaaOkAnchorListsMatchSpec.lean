-- written by rowgen.py, a program of this repo
import Derived.Test.YtbkdaofddnkaaaaAl
import Derived.Test.YtbkdaofddnkaaaaOpens
import Derived.KernelRfl
namespace Go.Proofs.Ytbkdaofddnkaaaa.PAm
open Go.RowKit Go.Proofs.YtbkdaofddnkaaaaW.PrintWords Go.Proofs.YtbkdaofddnkaaaaW.PrintLast Go.Proofs.Ytbkdaofddnkaaaa
set_option linter.unusedVariables false
def Ok57 (x : S57) : Prop := ((Lit.int .i64 x.f0).wf = true) ∧ ((x.f1.length * 16 ≤ 140737488351232) ∧ x.f1.length ≤ maxLen ∧ ∀ y_ ∈ x.f1, y_.size ≤ 140737488351232) ∧ ((x.f2.length * 16 ≤ 140737488351232) ∧ x.f2.length ≤ maxLen ∧ ∀ y_ ∈ x.f2, y_.size ≤ 140737488351232)
theorem op57 : Opn.Opens Try.prog (Opn.reach Try.prog) 57 k57 Ok57 :=
  Opn.Opens.mono (Opn.Opens.struct (fun x : S57 => (x.f0, x.f1, x.f2)) (fun p => ⟨p.1, p.2.1, p.2.2⟩) (fun _ => rfl) Try.underlying57 (by kernel_rfl) (Opn.OpensFs.cons rfl (by kernel_rfl) (Opn.Opens.int Try.underlying3) (Opn.OpensFs.cons rfl (by kernel_rfl) (Opn.Opens.slice (e := 9) (B := 16) Try.underlying55 (by kernel_rfl) (by kernel_rfl) (Opn.Opens.string Try.underlying9)) (Opn.OpensFs.last rfl (by kernel_rfl) (Opn.Opens.slice (e := 9) (B := 16) Try.underlying55 (by kernel_rfl) (by kernel_rfl) (Opn.Opens.string Try.underlying9)))))) (fun _ h => h)
def Ok45 (x : S45) : Prop := ((x.f0.length * 56 ≤ 140737488351232) ∧ x.f0.length ≤ maxLen ∧ ∀ y_ ∈ x.f0, Ok57 y_)
theorem op45 : Opn.Opens Try.prog (Opn.reach Try.prog) 45 k45 Ok45 :=
  Opn.Opens.mono (Opn.Opens.struct (fun x : S45 => x.f0) (fun p => ⟨p⟩) (fun _ => rfl) Try.underlying45 (by kernel_rfl) (Opn.OpensFs.last rfl (by kernel_rfl) (Opn.Opens.slice (e := 57) (B := 56) Try.underlying43 (by kernel_rfl) (by kernel_rfl) op57))) (fun _ h => h)
/-- THE ONE PURE STATEMENT. -/
def changeforgelaw7_AnchorListsMatchSpec.Pure : Prop := ∀ (x0 : List (S45)) (x1 : S45) (x2 : Int) (x3 : Int), ((x0.length * 24 ≤ 140737488351232) ∧ x0.length ≤ maxLen ∧ ∀ y_ ∈ x0, Ok45 y_) → (Ok45 x1) → ((Lit.int .i64 x2).wf = true) → ((Lit.int .i64 x3).wf = true) → ∃ k, changeforgelaw7_AnchorListsMatchSpec.f k x0 x1.f0 x2 x3 = some true
end Go.Proofs.Ytbkdaofddnkaaaa.PAm
