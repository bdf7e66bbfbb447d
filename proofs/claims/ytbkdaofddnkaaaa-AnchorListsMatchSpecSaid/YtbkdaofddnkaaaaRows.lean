/-
  No cell of these rows narrows 'for every input' (looked for: loops, veiled, ifaces, maps, wideKeys, modest, calm, conditions, laid).
  DERIVED. THE GIVEN ROWS OF THIS SEAT. 10 by the template 'for every input the law returns true; each argument reads behind the call as it read before'; 0 by the template 'total and deterministic' (their statements: YtbkdaofddnkaaaaTotals.lean).
  GIVEN WITH THE SEED: the statements are not yours to turn. If you find one false, say at which input.
  Laid BY PROGRAM, IN A SANDBOX (cutbox-rows.mjs): the forced cells as the released guide's own fill.sh prints them over the translation f29c182faedd8c8f… (all of the seat's roots in one cut). By AI agents, Wed Nov 11 2026. No macro, syntax, notation, axiom, sorry.
-/
import Derived.Test.YtbkdaofddnkaaaaChecked
import GoSem.Claim
import GoSem.ClaimJoined
import GoSem.ClaimMapViews
import Derived.JoinedTies
import Derived.KernelRfl
namespace Go.Proofs.Ytbkdaofddnkaaaa
/- THE CELL 'sum', in the pinned program and in every row, IS THE sha256 OF THE DUMP (.gsa) THAT YtbkdaofddnkaaaaProg.lean LOADS. Nothing in Lean hashes anything: it is a label: what it is worth is what the hold of that sum in a sandbox is worth. -/
noncomputable def Try.pinned : Pinned := { name := "ytbkdaofddnkaaaa", sum := "f29c182faedd8c8fd1f362c7e98fec0d9674c7b278fb045c9939ddc4079d6a40", checked := Try.checked }
namespace Rows
def none {H : Type} : Left H := { results := [], args := [] }

/-- 'changeforgelaw7.VotesFunctionsMatchSpec': WHATEVER THE INPUT: true; the input reads as it did. -/
def votesFunctionsMatchSpecSpec : ChangeSpec := { name := "votesFunctionsMatchSpec", fn := fun _ => fun
  | [d1, d2, d3] => { results := [.lit (.bool true)], args := [d1, d2, d3] }
  | _ => none }
def votesFunctionsMatchSpecRow : OpenClaim := { program := "ytbkdaofddnkaaaa", sum := "f29c182faedd8c8fd1f362c7e98fec0d9674c7b278fb045c9939ddc4079d6a40", func := "changeforge/changeforgelaw7.VotesFunctionsMatchSpec", spec := "votesFunctionsMatchSpec", apart := false }
def VotesFunctionsMatchSpecSaid : Prop := votesFunctionsMatchSpecRow.holds Try.pinned (OpenSpec.ofChange votesFunctionsMatchSpecSpec)

/-- ITS FALSE NEIGHBOUR: 'it returns false'. Refute it at one input. -/
def votesFunctionsMatchSpecWrong : ChangeSpec := { name := "votesFunctionsMatchSpec", fn := fun _ => fun
  | [d1, d2, d3] => { results := [.lit (.bool false)], args := [d1, d2, d3] }
  | _ => none }
def VotesFunctionsMatchSpecWrongFalsely : Prop := votesFunctionsMatchSpecRow.holds Try.pinned (OpenSpec.ofChange votesFunctionsMatchSpecWrong)

/-- 'changeforgelaw7.VotesLastOneCounts': WHATEVER THE INPUT: true; the input reads as it did. -/
def votesLastOneCountsSpec : ChangeSpec := { name := "votesLastOneCounts", fn := fun _ => fun
  | [d1, d2, d3, d4] => { results := [.lit (.bool true)], args := [d1, d2, d3, d4] }
  | _ => none }
def votesLastOneCountsRow : OpenClaim := { program := "ytbkdaofddnkaaaa", sum := "f29c182faedd8c8fd1f362c7e98fec0d9674c7b278fb045c9939ddc4079d6a40", func := "changeforge/changeforgelaw7.VotesLastOneCounts", spec := "votesLastOneCounts", apart := false }
def VotesLastOneCountsSaid : Prop := votesLastOneCountsRow.holds Try.pinned (OpenSpec.ofChange votesLastOneCountsSpec)

/-- ITS FALSE NEIGHBOUR: 'it returns false'. Refute it at one input. -/
def votesLastOneCountsWrong : ChangeSpec := { name := "votesLastOneCounts", fn := fun _ => fun
  | [d1, d2, d3, d4] => { results := [.lit (.bool false)], args := [d1, d2, d3, d4] }
  | _ => none }
def VotesLastOneCountsWrongFalsely : Prop := votesLastOneCountsRow.holds Try.pinned (OpenSpec.ofChange votesLastOneCountsWrong)

/-- 'changeforgelaw7.VotesNewRevisionKeepsVetoes': WHATEVER THE INPUT: true; the input reads as it did. -/
def votesNewRevisionKeepsVetoesSpec : ChangeSpec := { name := "votesNewRevisionKeepsVetoes", fn := fun _ => fun
  | [d1, d2, d3] => { results := [.lit (.bool true)], args := [d1, d2, d3] }
  | _ => none }
def votesNewRevisionKeepsVetoesRow : OpenClaim := { program := "ytbkdaofddnkaaaa", sum := "f29c182faedd8c8fd1f362c7e98fec0d9674c7b278fb045c9939ddc4079d6a40", func := "changeforge/changeforgelaw7.VotesNewRevisionKeepsVetoes", spec := "votesNewRevisionKeepsVetoes", apart := false }
def VotesNewRevisionKeepsVetoesSaid : Prop := votesNewRevisionKeepsVetoesRow.holds Try.pinned (OpenSpec.ofChange votesNewRevisionKeepsVetoesSpec)

/-- ITS FALSE NEIGHBOUR: 'it returns false'. Refute it at one input. -/
def votesNewRevisionKeepsVetoesWrong : ChangeSpec := { name := "votesNewRevisionKeepsVetoes", fn := fun _ => fun
  | [d1, d2, d3] => { results := [.lit (.bool false)], args := [d1, d2, d3] }
  | _ => none }
def VotesNewRevisionKeepsVetoesWrongFalsely : Prop := votesNewRevisionKeepsVetoesRow.holds Try.pinned (OpenSpec.ofChange votesNewRevisionKeepsVetoesWrong)

/-- 'changeforgelaw7.VotesOfUsersAreIndependent': WHATEVER THE INPUT: true; the input reads as it did. -/
def votesOfUsersAreIndependentSpec : ChangeSpec := { name := "votesOfUsersAreIndependent", fn := fun _ => fun
  | [d1, d2, d3, d4] => { results := [.lit (.bool true)], args := [d1, d2, d3, d4] }
  | _ => none }
def votesOfUsersAreIndependentRow : OpenClaim := { program := "ytbkdaofddnkaaaa", sum := "f29c182faedd8c8fd1f362c7e98fec0d9674c7b278fb045c9939ddc4079d6a40", func := "changeforge/changeforgelaw7.VotesOfUsersAreIndependent", spec := "votesOfUsersAreIndependent", apart := false }
def VotesOfUsersAreIndependentSaid : Prop := votesOfUsersAreIndependentRow.holds Try.pinned (OpenSpec.ofChange votesOfUsersAreIndependentSpec)

/-- ITS FALSE NEIGHBOUR: 'it returns false'. Refute it at one input. -/
def votesOfUsersAreIndependentWrong : ChangeSpec := { name := "votesOfUsersAreIndependent", fn := fun _ => fun
  | [d1, d2, d3, d4] => { results := [.lit (.bool false)], args := [d1, d2, d3, d4] }
  | _ => none }
def VotesOfUsersAreIndependentWrongFalsely : Prop := votesOfUsersAreIndependentRow.holds Try.pinned (OpenSpec.ofChange votesOfUsersAreIndependentWrong)

/-- 'changeforgelaw7.VotesEarlierRevisionsAreFinal': WHATEVER THE INPUT: true; the input reads as it did. -/
def votesEarlierRevisionsAreFinalSpec : ChangeSpec := { name := "votesEarlierRevisionsAreFinal", fn := fun _ => fun
  | [d1, d2, d3] => { results := [.lit (.bool true)], args := [d1, d2, d3] }
  | _ => none }
def votesEarlierRevisionsAreFinalRow : OpenClaim := { program := "ytbkdaofddnkaaaa", sum := "f29c182faedd8c8fd1f362c7e98fec0d9674c7b278fb045c9939ddc4079d6a40", func := "changeforge/changeforgelaw7.VotesEarlierRevisionsAreFinal", spec := "votesEarlierRevisionsAreFinal", apart := false }
def VotesEarlierRevisionsAreFinalSaid : Prop := votesEarlierRevisionsAreFinalRow.holds Try.pinned (OpenSpec.ofChange votesEarlierRevisionsAreFinalSpec)

/-- ITS FALSE NEIGHBOUR: 'it returns false'. Refute it at one input. -/
def votesEarlierRevisionsAreFinalWrong : ChangeSpec := { name := "votesEarlierRevisionsAreFinal", fn := fun _ => fun
  | [d1, d2, d3] => { results := [.lit (.bool false)], args := [d1, d2, d3] }
  | _ => none }
def VotesEarlierRevisionsAreFinalWrongFalsely : Prop := votesEarlierRevisionsAreFinalRow.holds Try.pinned (OpenSpec.ofChange votesEarlierRevisionsAreFinalWrong)

/-- 'changeforgelaw7.AnchorListsMatchSpec': WHATEVER THE INPUT: true; the input reads as it did. -/
def anchorListsMatchSpecSpec : ChangeSpec := { name := "anchorListsMatchSpec", fn := fun _ => fun
  | [d1, d2, d3, d4] => { results := [.lit (.bool true)], args := [d1, d2, d3, d4] }
  | _ => none }
def anchorListsMatchSpecRow : OpenClaim := { program := "ytbkdaofddnkaaaa", sum := "f29c182faedd8c8fd1f362c7e98fec0d9674c7b278fb045c9939ddc4079d6a40", func := "changeforge/changeforgelaw7.AnchorListsMatchSpec", spec := "anchorListsMatchSpec", inPlace := ["internal/bytealg.IndexByteString", "internal/bytealg.IndexString"], named := ["internal/bytealg.MaxLen"], apart := false }
def AnchorListsMatchSpecSaid : Prop := anchorListsMatchSpecRow.holds Try.pinned (OpenSpec.ofChange anchorListsMatchSpecSpec)

/-- ITS FALSE NEIGHBOUR: 'it returns false'. Refute it at one input. -/
def anchorListsMatchSpecWrong : ChangeSpec := { name := "anchorListsMatchSpec", fn := fun _ => fun
  | [d1, d2, d3, d4] => { results := [.lit (.bool false)], args := [d1, d2, d3, d4] }
  | _ => none }
def AnchorListsMatchSpecWrongFalsely : Prop := anchorListsMatchSpecRow.holds Try.pinned (OpenSpec.ofChange anchorListsMatchSpecWrong)

/-- 'changeforgelaw7.AnchorThroughComposes': WHATEVER THE INPUT: true; the input reads as it did. -/
def anchorThroughComposesSpec : ChangeSpec := { name := "anchorThroughComposes", fn := fun _ => fun
  | [d1, d2, d3] => { results := [.lit (.bool true)], args := [d1, d2, d3] }
  | _ => none }
def anchorThroughComposesRow : OpenClaim := { program := "ytbkdaofddnkaaaa", sum := "f29c182faedd8c8fd1f362c7e98fec0d9674c7b278fb045c9939ddc4079d6a40", func := "changeforge/changeforgelaw7.AnchorThroughComposes", spec := "anchorThroughComposes", inPlace := ["internal/bytealg.IndexByteString", "internal/bytealg.IndexString"], named := ["internal/bytealg.MaxLen"], apart := false }
def AnchorThroughComposesSaid : Prop := anchorThroughComposesRow.holds Try.pinned (OpenSpec.ofChange anchorThroughComposesSpec)

/-- ITS FALSE NEIGHBOUR: 'it returns false'. Refute it at one input. -/
def anchorThroughComposesWrong : ChangeSpec := { name := "anchorThroughComposes", fn := fun _ => fun
  | [d1, d2, d3] => { results := [.lit (.bool false)], args := [d1, d2, d3] }
  | _ => none }
def AnchorThroughComposesWrongFalsely : Prop := anchorThroughComposesRow.holds Try.pinned (OpenSpec.ofChange anchorThroughComposesWrong)

/-- 'changeforgelaw7.AnchorFollowsText': WHATEVER THE INPUT: true; the input reads as it did. -/
def anchorFollowsTextSpec : ChangeSpec := { name := "anchorFollowsText", fn := fun _ => fun
  | [d1, d2] => { results := [.lit (.bool true)], args := [d1, d2] }
  | _ => none }
def anchorFollowsTextRow : OpenClaim := { program := "ytbkdaofddnkaaaa", sum := "f29c182faedd8c8fd1f362c7e98fec0d9674c7b278fb045c9939ddc4079d6a40", func := "changeforge/changeforgelaw7.AnchorFollowsText", spec := "anchorFollowsText", inPlace := ["internal/bytealg.IndexByteString", "internal/bytealg.IndexString"], named := ["internal/bytealg.MaxLen"], apart := false }
def AnchorFollowsTextSaid : Prop := anchorFollowsTextRow.holds Try.pinned (OpenSpec.ofChange anchorFollowsTextSpec)

/-- ITS FALSE NEIGHBOUR: 'it returns false'. Refute it at one input. -/
def anchorFollowsTextWrong : ChangeSpec := { name := "anchorFollowsText", fn := fun _ => fun
  | [d1, d2] => { results := [.lit (.bool false)], args := [d1, d2] }
  | _ => none }
def AnchorFollowsTextWrongFalsely : Prop := anchorFollowsTextRow.holds Try.pinned (OpenSpec.ofChange anchorFollowsTextWrong)

/-- 'changeforgelaw7.AnchorMapMatchesSpec': WHATEVER THE INPUT: true; the input reads as it did. -/
def anchorMapMatchesSpecSpec : ChangeSpec := { name := "anchorMapMatchesSpec", fn := fun _ => fun
  | [d1, d2] => { results := [.lit (.bool true)], args := [d1, d2] }
  | _ => none }
def anchorMapMatchesSpecRow : OpenClaim := { program := "ytbkdaofddnkaaaa", sum := "f29c182faedd8c8fd1f362c7e98fec0d9674c7b278fb045c9939ddc4079d6a40", func := "changeforge/changeforgelaw7.AnchorMapMatchesSpec", spec := "anchorMapMatchesSpec", inPlace := ["internal/bytealg.IndexByteString", "internal/bytealg.IndexString"], named := ["internal/bytealg.MaxLen"], apart := false }
def AnchorMapMatchesSpecSaid : Prop := anchorMapMatchesSpecRow.holds Try.pinned (OpenSpec.ofChange anchorMapMatchesSpecSpec)

/-- ITS FALSE NEIGHBOUR: 'it returns false'. Refute it at one input. -/
def anchorMapMatchesSpecWrong : ChangeSpec := { name := "anchorMapMatchesSpec", fn := fun _ => fun
  | [d1, d2] => { results := [.lit (.bool false)], args := [d1, d2] }
  | _ => none }
def AnchorMapMatchesSpecWrongFalsely : Prop := anchorMapMatchesSpecRow.holds Try.pinned (OpenSpec.ofChange anchorMapMatchesSpecWrong)

/-- 'changeforgelaw7.AnchorBackAndForth': WHATEVER THE INPUT: true; the input reads as it did. -/
def anchorBackAndForthSpec : ChangeSpec := { name := "anchorBackAndForth", fn := fun _ => fun
  | [d1, d2] => { results := [.lit (.bool true)], args := [d1, d2] }
  | _ => none }
def anchorBackAndForthRow : OpenClaim := { program := "ytbkdaofddnkaaaa", sum := "f29c182faedd8c8fd1f362c7e98fec0d9674c7b278fb045c9939ddc4079d6a40", func := "changeforge/changeforgelaw7.AnchorBackAndForth", spec := "anchorBackAndForth", inPlace := ["internal/bytealg.IndexByteString", "internal/bytealg.IndexString"], named := ["internal/bytealg.MaxLen"], apart := false }
def AnchorBackAndForthSaid : Prop := anchorBackAndForthRow.holds Try.pinned (OpenSpec.ofChange anchorBackAndForthSpec)

/-- ITS FALSE NEIGHBOUR: 'it returns false'. Refute it at one input. -/
def anchorBackAndForthWrong : ChangeSpec := { name := "anchorBackAndForth", fn := fun _ => fun
  | [d1, d2] => { results := [.lit (.bool false)], args := [d1, d2] }
  | _ => none }
def AnchorBackAndForthWrongFalsely : Prop := anchorBackAndForthRow.holds Try.pinned (OpenSpec.ofChange anchorBackAndForthWrong)

/- THE SECOND FORM. 'bulk': how many values and letters a reading holds, each counted each time it is reached (what is shared counts as often as it is met; a slice's spare places count too). A statement '..UptoSaid' is the law's where the arguments, and the package variables that the reading takes, are together of bulk at most 1048576: NARROWER than '..Said'. Prove '..Said' where nothing that the law and all that it calls make is longer than what came in: it says more and counts as full. Else prove '..UptoSaid'. A law counts once. -/
mutual
def uptoBulk {H : Type} : DataW H → Nat
  | .lit (.string bytes) => bytes.length + 1
  | .lit _ => 1
  | .nil => 1
  | .ptr d => uptoBulk d + 1
  | .slice elems spare => uptoBulkAll elems + uptoBulkAll spare + 1
  | .agg parts => uptoBulkAll parts + 1
  | .iface _ d => uptoBulk d + 1
  | .map entries => uptoBulkEntries entries + 1
  | .held _ => 1
def uptoBulkAll {H : Type} : List (DataW H) → Nat
  | [] => 0
  | d :: r => uptoBulk d + uptoBulkAll r
def uptoBulkEntries {H : Type} : List (Lit × DataW H) → Nat
  | [] => 0
  | x :: r => uptoBulkEntry x + uptoBulkEntries r
def uptoBulkEntry {H : Type} : Lit × DataW H → Nat
  | (.string bytes, d) => bytes.length + uptoBulk d + 1
  | (_, d) => uptoBulk d + 1
 end
def uptoSmall : (H : Type) → List (DataW H) → Bool := fun _ ds => decide (uptoBulkAll ds ≤ 1048576)
def OpenSpec.upto (s : _root_.Go.ChangeSpec) : _root_.Go.OpenSpec := { _root_.Go.OpenSpec.ofChange s with cond := some uptoSmall }

/-- 'changeforgelaw7.VotesFunctionsMatchSpec', WHERE WHAT IT READS IS OF BULK AT MOST 1048576: true; the input reads as it did. -/
def votesFunctionsMatchSpecUptoRow : OpenClaim := { program := "ytbkdaofddnkaaaa", sum := "f29c182faedd8c8fd1f362c7e98fec0d9674c7b278fb045c9939ddc4079d6a40", func := "changeforge/changeforgelaw7.VotesFunctionsMatchSpec", spec := "votesFunctionsMatchSpec", apart := false, narrowed := true }
def VotesFunctionsMatchSpecUptoSaid : Prop := votesFunctionsMatchSpecUptoRow.holds Try.pinned (OpenSpec.upto votesFunctionsMatchSpecSpec)

/-- 'changeforgelaw7.VotesLastOneCounts', WHERE WHAT IT READS IS OF BULK AT MOST 1048576: true; the input reads as it did. -/
def votesLastOneCountsUptoRow : OpenClaim := { program := "ytbkdaofddnkaaaa", sum := "f29c182faedd8c8fd1f362c7e98fec0d9674c7b278fb045c9939ddc4079d6a40", func := "changeforge/changeforgelaw7.VotesLastOneCounts", spec := "votesLastOneCounts", apart := false, narrowed := true }
def VotesLastOneCountsUptoSaid : Prop := votesLastOneCountsUptoRow.holds Try.pinned (OpenSpec.upto votesLastOneCountsSpec)

/-- 'changeforgelaw7.VotesNewRevisionKeepsVetoes', WHERE WHAT IT READS IS OF BULK AT MOST 1048576: true; the input reads as it did. -/
def votesNewRevisionKeepsVetoesUptoRow : OpenClaim := { program := "ytbkdaofddnkaaaa", sum := "f29c182faedd8c8fd1f362c7e98fec0d9674c7b278fb045c9939ddc4079d6a40", func := "changeforge/changeforgelaw7.VotesNewRevisionKeepsVetoes", spec := "votesNewRevisionKeepsVetoes", apart := false, narrowed := true }
def VotesNewRevisionKeepsVetoesUptoSaid : Prop := votesNewRevisionKeepsVetoesUptoRow.holds Try.pinned (OpenSpec.upto votesNewRevisionKeepsVetoesSpec)

/-- 'changeforgelaw7.VotesOfUsersAreIndependent', WHERE WHAT IT READS IS OF BULK AT MOST 1048576: true; the input reads as it did. -/
def votesOfUsersAreIndependentUptoRow : OpenClaim := { program := "ytbkdaofddnkaaaa", sum := "f29c182faedd8c8fd1f362c7e98fec0d9674c7b278fb045c9939ddc4079d6a40", func := "changeforge/changeforgelaw7.VotesOfUsersAreIndependent", spec := "votesOfUsersAreIndependent", apart := false, narrowed := true }
def VotesOfUsersAreIndependentUptoSaid : Prop := votesOfUsersAreIndependentUptoRow.holds Try.pinned (OpenSpec.upto votesOfUsersAreIndependentSpec)

/-- 'changeforgelaw7.VotesEarlierRevisionsAreFinal', WHERE WHAT IT READS IS OF BULK AT MOST 1048576: true; the input reads as it did. -/
def votesEarlierRevisionsAreFinalUptoRow : OpenClaim := { program := "ytbkdaofddnkaaaa", sum := "f29c182faedd8c8fd1f362c7e98fec0d9674c7b278fb045c9939ddc4079d6a40", func := "changeforge/changeforgelaw7.VotesEarlierRevisionsAreFinal", spec := "votesEarlierRevisionsAreFinal", apart := false, narrowed := true }
def VotesEarlierRevisionsAreFinalUptoSaid : Prop := votesEarlierRevisionsAreFinalUptoRow.holds Try.pinned (OpenSpec.upto votesEarlierRevisionsAreFinalSpec)

/-- 'changeforgelaw7.AnchorListsMatchSpec', WHERE WHAT IT READS IS OF BULK AT MOST 1048576: true; the input reads as it did. -/
def anchorListsMatchSpecUptoRow : OpenClaim := { program := "ytbkdaofddnkaaaa", sum := "f29c182faedd8c8fd1f362c7e98fec0d9674c7b278fb045c9939ddc4079d6a40", func := "changeforge/changeforgelaw7.AnchorListsMatchSpec", spec := "anchorListsMatchSpec", inPlace := ["internal/bytealg.IndexByteString", "internal/bytealg.IndexString"], named := ["internal/bytealg.MaxLen"], apart := false, narrowed := true }
def AnchorListsMatchSpecUptoSaid : Prop := anchorListsMatchSpecUptoRow.holds Try.pinned (OpenSpec.upto anchorListsMatchSpecSpec)

/-- 'changeforgelaw7.AnchorThroughComposes', WHERE WHAT IT READS IS OF BULK AT MOST 1048576: true; the input reads as it did. -/
def anchorThroughComposesUptoRow : OpenClaim := { program := "ytbkdaofddnkaaaa", sum := "f29c182faedd8c8fd1f362c7e98fec0d9674c7b278fb045c9939ddc4079d6a40", func := "changeforge/changeforgelaw7.AnchorThroughComposes", spec := "anchorThroughComposes", inPlace := ["internal/bytealg.IndexByteString", "internal/bytealg.IndexString"], named := ["internal/bytealg.MaxLen"], apart := false, narrowed := true }
def AnchorThroughComposesUptoSaid : Prop := anchorThroughComposesUptoRow.holds Try.pinned (OpenSpec.upto anchorThroughComposesSpec)

/-- 'changeforgelaw7.AnchorFollowsText', WHERE WHAT IT READS IS OF BULK AT MOST 1048576: true; the input reads as it did. -/
def anchorFollowsTextUptoRow : OpenClaim := { program := "ytbkdaofddnkaaaa", sum := "f29c182faedd8c8fd1f362c7e98fec0d9674c7b278fb045c9939ddc4079d6a40", func := "changeforge/changeforgelaw7.AnchorFollowsText", spec := "anchorFollowsText", inPlace := ["internal/bytealg.IndexByteString", "internal/bytealg.IndexString"], named := ["internal/bytealg.MaxLen"], apart := false, narrowed := true }
def AnchorFollowsTextUptoSaid : Prop := anchorFollowsTextUptoRow.holds Try.pinned (OpenSpec.upto anchorFollowsTextSpec)

/-- 'changeforgelaw7.AnchorMapMatchesSpec', WHERE WHAT IT READS IS OF BULK AT MOST 1048576: true; the input reads as it did. -/
def anchorMapMatchesSpecUptoRow : OpenClaim := { program := "ytbkdaofddnkaaaa", sum := "f29c182faedd8c8fd1f362c7e98fec0d9674c7b278fb045c9939ddc4079d6a40", func := "changeforge/changeforgelaw7.AnchorMapMatchesSpec", spec := "anchorMapMatchesSpec", inPlace := ["internal/bytealg.IndexByteString", "internal/bytealg.IndexString"], named := ["internal/bytealg.MaxLen"], apart := false, narrowed := true }
def AnchorMapMatchesSpecUptoSaid : Prop := anchorMapMatchesSpecUptoRow.holds Try.pinned (OpenSpec.upto anchorMapMatchesSpecSpec)

/-- 'changeforgelaw7.AnchorBackAndForth', WHERE WHAT IT READS IS OF BULK AT MOST 1048576: true; the input reads as it did. -/
def anchorBackAndForthUptoRow : OpenClaim := { program := "ytbkdaofddnkaaaa", sum := "f29c182faedd8c8fd1f362c7e98fec0d9674c7b278fb045c9939ddc4079d6a40", func := "changeforge/changeforgelaw7.AnchorBackAndForth", spec := "anchorBackAndForth", inPlace := ["internal/bytealg.IndexByteString", "internal/bytealg.IndexString"], named := ["internal/bytealg.MaxLen"], apart := false, narrowed := true }
def AnchorBackAndForthUptoSaid : Prop := anchorBackAndForthUptoRow.holds Try.pinned (OpenSpec.upto anchorBackAndForthSpec)

end Rows
end Go.Proofs.Ytbkdaofddnkaaaa
