-- written by rowgen.py, a program of this repo
import Derived.Test.YtbkdaofddnkaaaaPAnx22
import Derived.Test.YtbkdaofddnkaaaaOpensUp
import Derived.KernelRfl
namespace Go.Proofs.Ytbkdaofddnkaaaa.PAn
open Go.RowKit Go.Proofs.YtbkdaofddnkaaaaW.PrintWords Go.Proofs.YtbkdaofddnkaaaaW.PrintLast Go.Proofs.Ytbkdaofddnkaaaa
set_option linter.unusedVariables false
def OkU57 (x : S57) : Prop := ((Lit.int .i64 x.f0).wf = true) ∧ ((x.f1.length * 16 ≤ 140737488351232 ∧ x.f1.length ≤ 1048576) ∧ x.f1.length ≤ maxLen ∧ ∀ y_ ∈ x.f1, y_.size ≤ 1048576) ∧ ((x.f2.length * 16 ≤ 140737488351232 ∧ x.f2.length ≤ 1048576) ∧ x.f2.length ≤ maxLen ∧ ∀ y_ ∈ x.f2, y_.size ≤ 1048576)
theorem opU57 : Opn.Opens Try.prog (Opn.upto Try.prog) 57 k57 OkU57 :=
  Opn.Opens.mono (Opn.Opens.struct (fun x : S57 => (x.f0, x.f1, x.f2)) (fun p => ⟨p.1, p.2.1, p.2.2⟩) (fun _ => rfl) Try.underlying57 (by kernel_rfl) (Opn.OpensFs.cons rfl (by kernel_rfl) (Opn.Opens.int Try.underlying3) (Opn.OpensFs.cons rfl (by kernel_rfl) (Opn.Opens.slice (e := 9) (B := 16) Try.underlying55 (by kernel_rfl) (by kernel_rfl) (Opn.Opens.string Try.underlying9)) (Opn.OpensFs.last rfl (by kernel_rfl) (Opn.Opens.slice (e := 9) (B := 16) Try.underlying55 (by kernel_rfl) (by kernel_rfl) (Opn.Opens.string Try.underlying9)))))) (fun _ h => h)
def OkU45 (x : S45) : Prop := ((x.f0.length * 56 ≤ 140737488351232 ∧ x.f0.length ≤ 1048576) ∧ x.f0.length ≤ maxLen ∧ ∀ y_ ∈ x.f0, OkU57 y_)
theorem opU45 : Opn.Opens Try.prog (Opn.upto Try.prog) 45 k45 OkU45 :=
  Opn.Opens.mono (Opn.Opens.struct (fun x : S45 => x.f0) (fun p => ⟨p⟩) (fun _ => rfl) Try.underlying45 (by kernel_rfl) (Opn.OpensFs.last rfl (by kernel_rfl) (Opn.Opens.slice (e := 57) (B := 56) Try.underlying43 (by kernel_rfl) (by kernel_rfl) opU57))) (fun _ h => h)
/-- THE ONE PURE STATEMENT. -/
def changeforgelaw7_AnchorThroughComposes.PureU : Prop := ∀ (x0 : List (S45)) (x1 : List (S45)) (x2 : Int), ((x0.length * 24 ≤ 140737488351232 ∧ x0.length ≤ 1048576) ∧ x0.length ≤ maxLen ∧ ∀ y_ ∈ x0, OkU45 y_) → ((x1.length * 24 ≤ 140737488351232 ∧ x1.length ≤ 1048576) ∧ x1.length ≤ maxLen ∧ ∀ y_ ∈ x1, OkU45 y_) → ((Lit.int .i64 x2).wf = true) → ∃ k, changeforgelaw7_AnchorThroughComposes.f k x0 x1 x2 = some true
end Go.Proofs.Ytbkdaofddnkaaaa.PAn
