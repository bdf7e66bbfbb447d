-- written by rowgen.py, a program of this repo
import Derived.Test.YtjpdcnaealdbjaaPThx39
import Derived.Test.YtjpdcnaealdbjaaOpens
import Derived.KernelRfl
namespace Go.Proofs.Ytjpdcnaealdbjaa.PTh
open Go.RowKit Go.Proofs.YtjpdcnaealdbjaaW.PrintWords Go.Proofs.YtjpdcnaealdbjaaW.PrintLast Go.Proofs.Ytjpdcnaealdbjaa
set_option linter.unusedVariables false
def Ok52 (x : S52) : Prop := ((Lit.int .i64 x.f0).wf = true) ∧ ((x.f1.length * 16 ≤ 140737488351232) ∧ x.f1.length ≤ maxLen ∧ ∀ y_ ∈ x.f1, y_.size ≤ 140737488351232) ∧ ((x.f2.length * 16 ≤ 140737488351232) ∧ x.f2.length ≤ maxLen ∧ ∀ y_ ∈ x.f2, y_.size ≤ 140737488351232)
theorem op52 : Opn.Opens Try.prog (Opn.reach Try.prog) 52 k52 Ok52 :=
  Opn.Opens.mono (Opn.Opens.struct (fun x : S52 => (x.f0, x.f1, x.f2)) (fun p => ⟨p.1, p.2.1, p.2.2⟩) (fun _ => rfl) Try.underlying52 (by kernel_rfl) (Opn.OpensFs.cons rfl (by kernel_rfl) (Opn.Opens.int Try.underlying3) (Opn.OpensFs.cons rfl (by kernel_rfl) (Opn.Opens.slice (e := 9) (B := 16) Try.underlying22 (by kernel_rfl) (by kernel_rfl) (Opn.Opens.string Try.underlying9)) (Opn.OpensFs.last rfl (by kernel_rfl) (Opn.Opens.slice (e := 9) (B := 16) Try.underlying22 (by kernel_rfl) (by kernel_rfl) (Opn.Opens.string Try.underlying9)))))) (fun _ h => h)
def Ok41 (x : S41) : Prop := ((x.f0.length * 56 ≤ 140737488351232) ∧ x.f0.length ≤ maxLen ∧ ∀ y_ ∈ x.f0, Ok52 y_)
theorem op41 : Opn.Opens Try.prog (Opn.reach Try.prog) 41 k41 Ok41 :=
  Opn.Opens.mono (Opn.Opens.struct (fun x : S41 => x.f0) (fun p => ⟨p⟩) (fun _ => rfl) Try.underlying41 (by kernel_rfl) (Opn.OpensFs.last rfl (by kernel_rfl) (Opn.Opens.slice (e := 52) (B := 56) Try.underlying39 (by kernel_rfl) (by kernel_rfl) op52))) (fun _ h => h)
def Ok43 (x : S43) : Prop := ((Lit.int .i64 x.f0).wf = true) ∧ ((Lit.int .i64 x.f1).wf = true) ∧ ((Lit.int .i64 x.f2).wf = true) ∧ ((Lit.int .i64 x.f3).wf = true) ∧ (x.f4.size ≤ 140737488351232) ∧ (Ok41 x.f5)
theorem op43 : Opn.Opens Try.prog (Opn.reach Try.prog) 43 k43 Ok43 :=
  Opn.Opens.mono (Opn.Opens.struct (fun x : S43 => (x.f0, x.f1, x.f2, x.f3, x.f4, x.f5)) (fun p => ⟨p.1, p.2.1, p.2.2.1, p.2.2.2.1, p.2.2.2.2.1, p.2.2.2.2.2⟩) (fun _ => rfl) Try.underlying43 (by kernel_rfl) (Opn.OpensFs.cons rfl (by kernel_rfl) (Opn.Opens.int Try.underlying3) (Opn.OpensFs.cons rfl (by kernel_rfl) (Opn.Opens.int Try.underlying3) (Opn.OpensFs.cons rfl (by kernel_rfl) (Opn.Opens.int Try.underlying3) (Opn.OpensFs.cons rfl (by kernel_rfl) (Opn.Opens.int Try.underlying3) (Opn.OpensFs.cons rfl (by kernel_rfl) (Opn.Opens.string Try.underlying9) (Opn.OpensFs.last rfl (by kernel_rfl) op41))))))) (fun _ h => h)
/-- THE ONE PURE STATEMENT. -/
def q8_.Pure : Prop := ∀ (x0 : List ByteArray) (x1 : List (S43)), ((x0.length * 16 ≤ 140737488351232) ∧ x0.length ≤ maxLen ∧ ∀ y_ ∈ x0, y_.size ≤ 140737488351232) → ((x1.length * 72 ≤ 140737488351232) ∧ x1.length ≤ maxLen ∧ ∀ y_ ∈ x1, Ok43 y_) → ∃ k, q8_.f k x0 x1 = some true
end Go.Proofs.Ytjpdcnaealdbjaa.PTh
