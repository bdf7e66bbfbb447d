/-
  No cell of these rows narrows 'for every input' (looked for: loops, veiled, ifaces, maps, wideKeys, modest, calm, conditions, laid).
  DERIVED. THE GIVEN ROWS OF THIS SEAT. 5 by the template 'for every input the law returns true; each argument reads behind the call as it read before'; 0 by the template 'total and deterministic' (their statements: YtjpdcnaealdbjaaTotals.lean).
  GIVEN WITH THE SEED: the statements are not yours to turn. If you find one false, say at which input.
  Laid BY PROGRAM, IN A SANDBOX (cutbox-rows.mjs): the forced cells as the released guide's own fill.sh prints them over the translation d6a2b3689fc20c7e… (all of the seat's roots in one cut). By AI agents, Wed Nov 11 2026. No macro, syntax, notation, axiom, sorry.
-/
import Derived.Test.YtjpdcnaealdbjaaChecked
import GoSem.Claim
import GoSem.ClaimJoined
import GoSem.ClaimMapViews
import Derived.JoinedTies
import Derived.KernelRfl
namespace Go.Proofs.Ytjpdcnaealdbjaa
/- THE CELL 'sum', in the pinned program and in every row, IS THE sha256 OF THE DUMP (.gsa) THAT YtjpdcnaealdbjaaProg.lean LOADS. Nothing in Lean hashes anything: it is a label: what it is worth is what the hold of that sum in a sandbox is worth. -/
noncomputable def Try.pinned : Pinned := { name := "ytjpdcnaealdbjaa", sum := "d6a2b3689fc20c7e8885436aca1d603c900449f46658c9f0f56fc3b79caabd78", checked := Try.checked }
namespace Rows
def none {H : Type} : Left H := { results := [], args := [] }

/-- 'changeforgelaw7.ThreadsFunctionsMatchSpec': WHATEVER THE INPUT: true; the input reads as it did. -/
def threadsFunctionsMatchSpecSpec : ChangeSpec := { name := "threadsFunctionsMatchSpec", fn := fun _ => fun
  | [d1, d2] => { results := [.lit (.bool true)], args := [d1, d2] }
  | _ => none }
def threadsFunctionsMatchSpecRow : OpenClaim := { program := "ytjpdcnaealdbjaa", sum := "d6a2b3689fc20c7e8885436aca1d603c900449f46658c9f0f56fc3b79caabd78", func := "changeforge/changeforgelaw7.ThreadsFunctionsMatchSpec", spec := "threadsFunctionsMatchSpec", inPlace := ["internal/bytealg.IndexByteString", "internal/bytealg.IndexString"], named := ["internal/bytealg.MaxLen"], apart := false }
def ThreadsFunctionsMatchSpecSaid : Prop := threadsFunctionsMatchSpecRow.holds Try.pinned (OpenSpec.ofChange threadsFunctionsMatchSpecSpec)

/-- ITS FALSE NEIGHBOUR: 'it returns false'. Refute it at one input. -/
def threadsFunctionsMatchSpecWrong : ChangeSpec := { name := "threadsFunctionsMatchSpec", fn := fun _ => fun
  | [d1, d2] => { results := [.lit (.bool false)], args := [d1, d2] }
  | _ => none }
def ThreadsFunctionsMatchSpecWrongFalsely : Prop := threadsFunctionsMatchSpecRow.holds Try.pinned (OpenSpec.ofChange threadsFunctionsMatchSpecWrong)

/-- 'changeforgelaw7.ThreadsStayAtTheirText': WHATEVER THE INPUT: true; the input reads as it did. -/
def threadsStayAtTheirTextSpec : ChangeSpec := { name := "threadsStayAtTheirText", fn := fun _ => fun
  | [d1, d2] => { results := [.lit (.bool true)], args := [d1, d2] }
  | _ => none }
def threadsStayAtTheirTextRow : OpenClaim := { program := "ytjpdcnaealdbjaa", sum := "d6a2b3689fc20c7e8885436aca1d603c900449f46658c9f0f56fc3b79caabd78", func := "changeforge/changeforgelaw7.ThreadsStayAtTheirText", spec := "threadsStayAtTheirText", inPlace := ["internal/bytealg.IndexByteString", "internal/bytealg.IndexString"], named := ["internal/bytealg.MaxLen"], apart := false }
def ThreadsStayAtTheirTextSaid : Prop := threadsStayAtTheirTextRow.holds Try.pinned (OpenSpec.ofChange threadsStayAtTheirTextSpec)

/-- ITS FALSE NEIGHBOUR: 'it returns false'. Refute it at one input. -/
def threadsStayAtTheirTextWrong : ChangeSpec := { name := "threadsStayAtTheirText", fn := fun _ => fun
  | [d1, d2] => { results := [.lit (.bool false)], args := [d1, d2] }
  | _ => none }
def ThreadsStayAtTheirTextWrongFalsely : Prop := threadsStayAtTheirTextRow.holds Try.pinned (OpenSpec.ofChange threadsStayAtTheirTextWrong)

/-- 'changeforgelaw7.ThreadsCommentsAddUp': WHATEVER THE INPUT: true; the input reads as it did. -/
def threadsCommentsAddUpSpec : ChangeSpec := { name := "threadsCommentsAddUp", fn := fun _ => fun
  | [d1, d2, d3, d4] => { results := [.lit (.bool true)], args := [d1, d2, d3, d4] }
  | _ => none }
def threadsCommentsAddUpRow : OpenClaim := { program := "ytjpdcnaealdbjaa", sum := "d6a2b3689fc20c7e8885436aca1d603c900449f46658c9f0f56fc3b79caabd78", func := "changeforge/changeforgelaw7.ThreadsCommentsAddUp", spec := "threadsCommentsAddUp", inPlace := ["internal/bytealg.IndexByteString", "internal/bytealg.IndexString"], named := ["internal/bytealg.MaxLen"], apart := false }
def ThreadsCommentsAddUpSaid : Prop := threadsCommentsAddUpRow.holds Try.pinned (OpenSpec.ofChange threadsCommentsAddUpSpec)

/-- ITS FALSE NEIGHBOUR: 'it returns false'. Refute it at one input. -/
def threadsCommentsAddUpWrong : ChangeSpec := { name := "threadsCommentsAddUp", fn := fun _ => fun
  | [d1, d2, d3, d4] => { results := [.lit (.bool false)], args := [d1, d2, d3, d4] }
  | _ => none }
def ThreadsCommentsAddUpWrongFalsely : Prop := threadsCommentsAddUpRow.holds Try.pinned (OpenSpec.ofChange threadsCommentsAddUpWrong)

/-- 'changeforgelaw7.ThreadsEmptyPatchChangesNothing': WHATEVER THE INPUT: true; the input reads as it did. -/
def threadsEmptyPatchChangesNothingSpec : ChangeSpec := { name := "threadsEmptyPatchChangesNothing", fn := fun _ => fun
  | [d1, d2, d3] => { results := [.lit (.bool true)], args := [d1, d2, d3] }
  | _ => none }
def threadsEmptyPatchChangesNothingRow : OpenClaim := { program := "ytjpdcnaealdbjaa", sum := "d6a2b3689fc20c7e8885436aca1d603c900449f46658c9f0f56fc3b79caabd78", func := "changeforge/changeforgelaw7.ThreadsEmptyPatchChangesNothing", spec := "threadsEmptyPatchChangesNothing", inPlace := ["internal/bytealg.IndexByteString", "internal/bytealg.IndexString"], named := ["internal/bytealg.MaxLen"], apart := false }
def ThreadsEmptyPatchChangesNothingSaid : Prop := threadsEmptyPatchChangesNothingRow.holds Try.pinned (OpenSpec.ofChange threadsEmptyPatchChangesNothingSpec)

/-- ITS FALSE NEIGHBOUR: 'it returns false'. Refute it at one input. -/
def threadsEmptyPatchChangesNothingWrong : ChangeSpec := { name := "threadsEmptyPatchChangesNothing", fn := fun _ => fun
  | [d1, d2, d3] => { results := [.lit (.bool false)], args := [d1, d2, d3] }
  | _ => none }
def ThreadsEmptyPatchChangesNothingWrongFalsely : Prop := threadsEmptyPatchChangesNothingRow.holds Try.pinned (OpenSpec.ofChange threadsEmptyPatchChangesNothingWrong)

/-- 'changeforgelaw7.ThreadsOutdatedStayOutdated': WHATEVER THE INPUT: true; the input reads as it did. -/
def threadsOutdatedStayOutdatedSpec : ChangeSpec := { name := "threadsOutdatedStayOutdated", fn := fun _ => fun
  | [d1, d2, d3] => { results := [.lit (.bool true)], args := [d1, d2, d3] }
  | _ => none }
def threadsOutdatedStayOutdatedRow : OpenClaim := { program := "ytjpdcnaealdbjaa", sum := "d6a2b3689fc20c7e8885436aca1d603c900449f46658c9f0f56fc3b79caabd78", func := "changeforge/changeforgelaw7.ThreadsOutdatedStayOutdated", spec := "threadsOutdatedStayOutdated", inPlace := ["internal/bytealg.IndexByteString", "internal/bytealg.IndexString"], named := ["internal/bytealg.MaxLen"], apart := false }
def ThreadsOutdatedStayOutdatedSaid : Prop := threadsOutdatedStayOutdatedRow.holds Try.pinned (OpenSpec.ofChange threadsOutdatedStayOutdatedSpec)

/-- ITS FALSE NEIGHBOUR: 'it returns false'. Refute it at one input. -/
def threadsOutdatedStayOutdatedWrong : ChangeSpec := { name := "threadsOutdatedStayOutdated", fn := fun _ => fun
  | [d1, d2, d3] => { results := [.lit (.bool false)], args := [d1, d2, d3] }
  | _ => none }
def ThreadsOutdatedStayOutdatedWrongFalsely : Prop := threadsOutdatedStayOutdatedRow.holds Try.pinned (OpenSpec.ofChange threadsOutdatedStayOutdatedWrong)

/- THE SECOND FORM. 'bulk': how many values and letters a reading holds, each counted each time it is reached (what is shared counts as often as it is met; a slice's spare places count too). A statement '..UptoSaid' is the law's where the arguments, and the package variables that the reading takes, are together of bulk at most 1048576: NARROWER than '..Said'. Prove '..Said' where nothing that the law and all that it calls make is longer than what came in: it says more and counts as full. Else prove '..UptoSaid'. A law counts once. -/
mutual
def uptoBulk {H : Type} : DataW H → Nat
  | .lit (.string bytes) => bytes.length + 1
  | .lit _ => 1
  | .nil => 1
  | .ptr d => uptoBulk d + 1
  | .slice elems spare => uptoBulkAll elems + uptoBulkAll spare + 1
  | .agg parts => uptoBulkAll parts + 1
  | .iface _ d => uptoBulk d + 1
  | .map entries => uptoBulkEntries entries + 1
  | .held _ => 1
def uptoBulkAll {H : Type} : List (DataW H) → Nat
  | [] => 0
  | d :: r => uptoBulk d + uptoBulkAll r
def uptoBulkEntries {H : Type} : List (Lit × DataW H) → Nat
  | [] => 0
  | x :: r => uptoBulkEntry x + uptoBulkEntries r
def uptoBulkEntry {H : Type} : Lit × DataW H → Nat
  | (.string bytes, d) => bytes.length + uptoBulk d + 1
  | (_, d) => uptoBulk d + 1
 end
def uptoSmall : (H : Type) → List (DataW H) → Bool := fun _ ds => decide (uptoBulkAll ds ≤ 1048576)
def OpenSpec.upto (s : _root_.Go.ChangeSpec) : _root_.Go.OpenSpec := { _root_.Go.OpenSpec.ofChange s with cond := some uptoSmall }

/-- 'changeforgelaw7.ThreadsFunctionsMatchSpec', WHERE WHAT IT READS IS OF BULK AT MOST 1048576: true; the input reads as it did. -/
def threadsFunctionsMatchSpecUptoRow : OpenClaim := { program := "ytjpdcnaealdbjaa", sum := "d6a2b3689fc20c7e8885436aca1d603c900449f46658c9f0f56fc3b79caabd78", func := "changeforge/changeforgelaw7.ThreadsFunctionsMatchSpec", spec := "threadsFunctionsMatchSpec", inPlace := ["internal/bytealg.IndexByteString", "internal/bytealg.IndexString"], named := ["internal/bytealg.MaxLen"], apart := false, narrowed := true }
def ThreadsFunctionsMatchSpecUptoSaid : Prop := threadsFunctionsMatchSpecUptoRow.holds Try.pinned (OpenSpec.upto threadsFunctionsMatchSpecSpec)

/-- 'changeforgelaw7.ThreadsStayAtTheirText', WHERE WHAT IT READS IS OF BULK AT MOST 1048576: true; the input reads as it did. -/
def threadsStayAtTheirTextUptoRow : OpenClaim := { program := "ytjpdcnaealdbjaa", sum := "d6a2b3689fc20c7e8885436aca1d603c900449f46658c9f0f56fc3b79caabd78", func := "changeforge/changeforgelaw7.ThreadsStayAtTheirText", spec := "threadsStayAtTheirText", inPlace := ["internal/bytealg.IndexByteString", "internal/bytealg.IndexString"], named := ["internal/bytealg.MaxLen"], apart := false, narrowed := true }
def ThreadsStayAtTheirTextUptoSaid : Prop := threadsStayAtTheirTextUptoRow.holds Try.pinned (OpenSpec.upto threadsStayAtTheirTextSpec)

/-- 'changeforgelaw7.ThreadsCommentsAddUp', WHERE WHAT IT READS IS OF BULK AT MOST 1048576: true; the input reads as it did. -/
def threadsCommentsAddUpUptoRow : OpenClaim := { program := "ytjpdcnaealdbjaa", sum := "d6a2b3689fc20c7e8885436aca1d603c900449f46658c9f0f56fc3b79caabd78", func := "changeforge/changeforgelaw7.ThreadsCommentsAddUp", spec := "threadsCommentsAddUp", inPlace := ["internal/bytealg.IndexByteString", "internal/bytealg.IndexString"], named := ["internal/bytealg.MaxLen"], apart := false, narrowed := true }
def ThreadsCommentsAddUpUptoSaid : Prop := threadsCommentsAddUpUptoRow.holds Try.pinned (OpenSpec.upto threadsCommentsAddUpSpec)

/-- 'changeforgelaw7.ThreadsEmptyPatchChangesNothing', WHERE WHAT IT READS IS OF BULK AT MOST 1048576: true; the input reads as it did. -/
def threadsEmptyPatchChangesNothingUptoRow : OpenClaim := { program := "ytjpdcnaealdbjaa", sum := "d6a2b3689fc20c7e8885436aca1d603c900449f46658c9f0f56fc3b79caabd78", func := "changeforge/changeforgelaw7.ThreadsEmptyPatchChangesNothing", spec := "threadsEmptyPatchChangesNothing", inPlace := ["internal/bytealg.IndexByteString", "internal/bytealg.IndexString"], named := ["internal/bytealg.MaxLen"], apart := false, narrowed := true }
def ThreadsEmptyPatchChangesNothingUptoSaid : Prop := threadsEmptyPatchChangesNothingUptoRow.holds Try.pinned (OpenSpec.upto threadsEmptyPatchChangesNothingSpec)

/-- 'changeforgelaw7.ThreadsOutdatedStayOutdated', WHERE WHAT IT READS IS OF BULK AT MOST 1048576: true; the input reads as it did. -/
def threadsOutdatedStayOutdatedUptoRow : OpenClaim := { program := "ytjpdcnaealdbjaa", sum := "d6a2b3689fc20c7e8885436aca1d603c900449f46658c9f0f56fc3b79caabd78", func := "changeforge/changeforgelaw7.ThreadsOutdatedStayOutdated", spec := "threadsOutdatedStayOutdated", inPlace := ["internal/bytealg.IndexByteString", "internal/bytealg.IndexString"], named := ["internal/bytealg.MaxLen"], apart := false, narrowed := true }
def ThreadsOutdatedStayOutdatedUptoSaid : Prop := threadsOutdatedStayOutdatedUptoRow.holds Try.pinned (OpenSpec.upto threadsOutdatedStayOutdatedSpec)

end Rows
end Go.Proofs.Ytjpdcnaealdbjaa
