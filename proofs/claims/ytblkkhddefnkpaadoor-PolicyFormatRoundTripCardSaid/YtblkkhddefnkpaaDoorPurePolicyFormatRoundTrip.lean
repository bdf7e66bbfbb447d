/- Parsing the text of a policy restores the policy: the law PolicyFormatRoundTrip returns true, for every policy (within the form's own reach). -/
import Derived.Test.YtblkkhddefnkpaaDoorOkPolicyFormatRoundTrip
import Derived.Test.YtblkkhddefnkpaaDoorPurePolG
set_option linter.unusedVariables false
namespace Go.Proofs.YtblkkhddefnkpaaDoor.Pure
open Go.RowKit Go.Proofs.YtblkkhddefnkpaaDoorW.PrintWords Go.Proofs.YtblkkhddefnkpaaDoorW.PrintLast Go.Proofs.YtblkkhddefnkpaaDoorW.PrintMore Go.Proofs.YtblkkhddefnkpaaDoor.PPo

/-- The fixed example of the document. -/
theorem policyExample_ev : Ev (fun k => changeforgelaw7_policyExample.f k) true :=
  Ev.of changeforgelaw7_policyExample.mono (k := 64) (by decide +kernel)
/-- No text: the first word is missing. -/
theorem Parse_nil : Ev (fun k => policy_Parse.f k (B [])) ([], 1, 0) :=
  Ev.of (fun k => policy_Parse.mono _ k) (k := 8) (by kernel_rfl)
theorem PolicyFormatRoundTrip : changeforgelaw7_PolicyFormatRoundTrip.Pure := by
  intro x0 o0
  refine Ev.rounds ?_
  unfold changeforgelaw7_PolicyFormatRoundTrip.f
  by_cases hv : polV x0.f0 = (0, 0)
  · obtain ⟨t, ht, e, hs, _⟩ := polV_tree hv
    rw [e] at hv ⊢
    refine Ev.bind (Format_ev t ht hv) ?_
    unfold polF
    by_cases c : (txl t).length > 200
    · rw [if_pos c]
      exact Ev.bind Parse_nil (Ev.bind policyExample_ev (Ev.pos rfl (Ev.neg (by decide) (Ev.now _))))
    · rw [if_neg c]
      exact Ev.bind (Parse_tree t ht hv (by omega)) (Ev.bind policyExample_ev (Ev.pos rfl (Ev.pos rfl (Ev.pos rfl (Ev.bind (eqP_self _ (by rw [lay_length]; omega)) (Ev.now _))))))
  · exact Ev.bind (Format_bad _ hv) (Ev.bind Parse_nil (Ev.bind policyExample_ev (Ev.pos rfl (Ev.neg (fun e => hv (polV_zero e)) (Ev.now _)))))
end Go.Proofs.YtblkkhddefnkpaaDoor.Pure
