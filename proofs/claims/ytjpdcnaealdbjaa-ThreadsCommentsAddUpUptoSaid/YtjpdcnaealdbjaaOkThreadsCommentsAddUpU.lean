-- written by rowgen.py, a program of this repo
import Derived.Test.YtjpdcnaealdbjaaPThx32
import Derived.Test.YtjpdcnaealdbjaaOpensUp
import Derived.KernelRfl
namespace Go.Proofs.Ytjpdcnaealdbjaa.PTh
open Go.RowKit Go.Proofs.YtjpdcnaealdbjaaW.PrintWords Go.Proofs.YtjpdcnaealdbjaaW.PrintLast Go.Proofs.Ytjpdcnaealdbjaa
set_option linter.unusedVariables false
def OkU52 (x : S52) : Prop := ((Lit.int .i64 x.f0).wf = true) ∧ ((x.f1.length * 16 ≤ 140737488351232 ∧ x.f1.length ≤ 1048576) ∧ x.f1.length ≤ maxLen ∧ ∀ y_ ∈ x.f1, y_.size ≤ 1048576) ∧ ((x.f2.length * 16 ≤ 140737488351232 ∧ x.f2.length ≤ 1048576) ∧ x.f2.length ≤ maxLen ∧ ∀ y_ ∈ x.f2, y_.size ≤ 1048576)
theorem opU52 : Opn.Opens Try.prog (Opn.upto Try.prog) 52 k52 OkU52 :=
  Opn.Opens.mono (Opn.Opens.struct (fun x : S52 => (x.f0, x.f1, x.f2)) (fun p => ⟨p.1, p.2.1, p.2.2⟩) (fun _ => rfl) Try.underlying52 (by kernel_rfl) (Opn.OpensFs.cons rfl (by kernel_rfl) (Opn.Opens.int Try.underlying3) (Opn.OpensFs.cons rfl (by kernel_rfl) (Opn.Opens.slice (e := 9) (B := 16) Try.underlying22 (by kernel_rfl) (by kernel_rfl) (Opn.Opens.string Try.underlying9)) (Opn.OpensFs.last rfl (by kernel_rfl) (Opn.Opens.slice (e := 9) (B := 16) Try.underlying22 (by kernel_rfl) (by kernel_rfl) (Opn.Opens.string Try.underlying9)))))) (fun _ h => h)
def OkU41 (x : S41) : Prop := ((x.f0.length * 56 ≤ 140737488351232 ∧ x.f0.length ≤ 1048576) ∧ x.f0.length ≤ maxLen ∧ ∀ y_ ∈ x.f0, OkU52 y_)
theorem opU41 : Opn.Opens Try.prog (Opn.upto Try.prog) 41 k41 OkU41 :=
  Opn.Opens.mono (Opn.Opens.struct (fun x : S41 => x.f0) (fun p => ⟨p⟩) (fun _ => rfl) Try.underlying41 (by kernel_rfl) (Opn.OpensFs.last rfl (by kernel_rfl) (Opn.Opens.slice (e := 52) (B := 56) Try.underlying39 (by kernel_rfl) (by kernel_rfl) opU52))) (fun _ h => h)
def OkU43 (x : S43) : Prop := ((Lit.int .i64 x.f0).wf = true) ∧ ((Lit.int .i64 x.f1).wf = true) ∧ ((Lit.int .i64 x.f2).wf = true) ∧ ((Lit.int .i64 x.f3).wf = true) ∧ (x.f4.size ≤ 1048576) ∧ (OkU41 x.f5)
theorem opU43 : Opn.Opens Try.prog (Opn.upto Try.prog) 43 k43 OkU43 :=
  Opn.Opens.mono (Opn.Opens.struct (fun x : S43 => (x.f0, x.f1, x.f2, x.f3, x.f4, x.f5)) (fun p => ⟨p.1, p.2.1, p.2.2.1, p.2.2.2.1, p.2.2.2.2.1, p.2.2.2.2.2⟩) (fun _ => rfl) Try.underlying43 (by kernel_rfl) (Opn.OpensFs.cons rfl (by kernel_rfl) (Opn.Opens.int Try.underlying3) (Opn.OpensFs.cons rfl (by kernel_rfl) (Opn.Opens.int Try.underlying3) (Opn.OpensFs.cons rfl (by kernel_rfl) (Opn.Opens.int Try.underlying3) (Opn.OpensFs.cons rfl (by kernel_rfl) (Opn.Opens.int Try.underlying3) (Opn.OpensFs.cons rfl (by kernel_rfl) (Opn.Opens.string Try.underlying9) (Opn.OpensFs.last rfl (by kernel_rfl) opU41))))))) (fun _ h => h)
/-- THE ONE PURE STATEMENT. -/
def changeforgelaw7_ThreadsCommentsAddUp.PureU : Prop := ∀ (x0 : List ByteArray) (x1 : List (S43)) (x2 : Int) (x3 : Int), ((x0.length * 16 ≤ 140737488351232 ∧ x0.length ≤ 1048576) ∧ x0.length ≤ maxLen ∧ ∀ y_ ∈ x0, y_.size ≤ 1048576) → ((x1.length * 72 ≤ 140737488351232 ∧ x1.length ≤ 1048576) ∧ x1.length ≤ maxLen ∧ ∀ y_ ∈ x1, OkU43 y_) → ((Lit.int .i64 x2).wf = true) → ((Lit.int .i64 x3).wf = true) → ∃ k, changeforgelaw7_ThreadsCommentsAddUp.f k x0 x1 x2 x3 = some true
end Go.Proofs.Ytjpdcnaealdbjaa.PTh
