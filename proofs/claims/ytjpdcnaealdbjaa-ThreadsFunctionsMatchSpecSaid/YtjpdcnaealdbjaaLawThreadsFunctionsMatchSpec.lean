-- written by rowgen.py, a program of this repo
import Derived.Test.YtjpdcnaealdbjaaRows
import Derived.Test.YtjpdcnaealdbjaaPureThreadsFunctionsMatchSpec
import Derived.WalkKit
import Derived.ProofKit
import Derived.OpenShut
import Derived.ShutString
import Derived.ChangeOld
import Derived.Below
import Derived.SizedLaws
import Derived.Carry
import Derived.JoinedCond
import Derived.Deep.CondSized
namespace Go.Proofs.Ytjpdcnaealdbjaa.threadsFunctionsMatchSpec
open Go.ChangeShapes Go.WideShapes Go.ChangeAt Go.RowKit Go.Proofs.YtjpdcnaealdbjaaW.PrintWords Go.Proofs.Ytjpdcnaealdbjaa.PTh
open Go.ChangeMaps (open_string shut_string)
set_option linter.unusedVariables false
theorem own : ownKnob Try.prog.godebug = none := by kernel_rfl
theorem laidOut : laidOutB Try.prog = true := by kernel_rfl
set_option maxRecDepth 100000 in
theorem lifted (os : Os) (started : os.Started) (H : Type) (enc : TypeId × Value → H) :
    ReturnsInHanded {} Try.checked os 3 .any (Rows.threadsFunctionsMatchSpecSpec.pre6 enc Try.prog Try.f3 Rows.threadsFunctionsMatchSpecRow.domain false) (Rows.threadsFunctionsMatchSpecSpec.post enc Try.prog Try.f3 false true false false) := by
  refine returnsInHanded_of_change_sized (C := Try.checked) own started (by kernel_rfl) Try.func3
    (ChangeSpec.witness6 (enc := enc) (C := Try.checked) false ⟨#[], #[.slice none 0 0, .slice none 0 0], []⟩ 8 (by kernel_rfl) (by kernel_rfl) (by kernel_rfl) (by kernel_rfl)) ?_
  intro W base args ds gs before hval0 hW hcnd hsz0 _
  have hsz : (DataW.weightsEach Try.prog (Try.f3.params.toList ++ Rows.threadsFunctionsMatchSpecSpec.plain.varTypes Try.prog) (ds ++ gs)).all (· ≤ reachBytes) = true := hsz0
  have hval : ∀ (j : Nat) t v, Try.f3.params[j]? = some t → args[j]? = some v → Value.okWide Try.prog W .any base t v := hval0
  have hW' := hW
  obtain ⟨p, q, hA0, hV, rfl, hfz, hnd⟩ := hW
  have hA : DataW.TrodAll enc Try.prog W 0 (fun _ => true) true Try.f3.params.toList args.toList ds p := hA0
  rw [Try.params3] at hA hval hsz
  obtain ⟨v0, vs0, d0, ds0, p0, q0, hargs, rfl, rfl, h0, r0⟩ := trodAll_cons hA
  obtain ⟨v1, vs1, d1, ds1, p1, q1, rfl, rfl, rfl, h1, r1⟩ := trodAll_cons r0
  obtain ⟨rfl, rfl, rfl⟩ := trodAll_nil r1
  obtain rfl : args = #[v0, v1] := by cases args; simp_all
  obtain ⟨rfl, rfl⟩ := trodVars_none hV
  have k0 := h0
  have lt0 : ∀ x ∈ p0, x.block < W.heap.size := by obtain ⟨m, hm⟩ := k0; exact DataW.trod_lt m _ _ _ hm
  obtain ⟨x0, A0, c0, rfl, l0, g0, o0⟩ := Opn.arg_slice (Opn.Opens.slice (e := 9) (B := 16) Try.underlying22 (by kernel_rfl) (by kernel_rfl) (Opn.Opens.string Try.underlying9)) Try.underlying22 (hval 0 22 v0 rfl rfl) h0 (Opn.reach_of hsz (j := 0) (t := 22) rfl rfl)
  have k1 := h1
  have lt1 : ∀ x ∈ p1, x.block < W.heap.size := by obtain ⟨m, hm⟩ := k1; exact DataW.trod_lt m _ _ _ hm
  obtain ⟨x1, A1, c1, rfl, l1, g1, o1⟩ := Opn.arg_slice (Opn.Opens.slice (e := 43) (B := 72) Try.underlying23 (by kernel_rfl) (by kernel_rfl) op43) Try.underlying23 (hval 1 23 v1 rfl rfl) h1 (Opn.reach_of hsz (j := 1) (t := 23) rfl rfl)
  clear hA0 hval0 hsz
  obtain ⟨k, hP⟩ := Pure.ThreadsFunctionsMatchSpec x0 x1 o0 o1
  refine (q8_.calls k _ _ x0 _ _ x1 true W g0 l0 g1 l1 hP).mono fun e W' ⟨he, bel0⟩ => ?_
  have bel : Below W.heap.size W W' := bel0
  subst he
  exact ⟨_, rfl, _, _, _, [], _, [], hW', trodAll_mk1 (shut_bool Try.underlying4 _), (trodAll_cons_mk (Below.trod laidOut (by kernel_rfl) (of_decide_eq_true (by kernel_rfl)) k0 bel lt0) (trodAll_cons_mk (Below.trod laidOut (by kernel_rfl) (of_decide_eq_true (by kernel_rfl)) k1 bel lt1) trodAll_mk0)), rfl, bel.frame _, fun h => by cases h⟩
theorem over : Rows.threadsFunctionsMatchSpecRow.holds Try.pinned (OpenSpec.ofChange Rows.threadsFunctionsMatchSpecSpec) :=
  OpenClaim.holds_of_wide 3 Try.f3 rfl rfl rfl rfl rfl rfl rfl ⟨rfl, rfl, rfl, rfl, rfl⟩ rfl rfl rfl rfl rfl (by kernel_rfl) Try.func3 (by kernel_rfl)
    (of_decide_eq_true (by kernel_rfl)) (by unfold Func.isWrapper; first | (rw [if_pos (by decide +kernel)]; kernel_rfl) | (rw [if_neg (by decide +kernel)]; exact ⟨rfl, rfl⟩))
    (fun os started H enc _ => lifted os started H enc)
theorem proved : Rows.ThreadsFunctionsMatchSpecSaid := over
end Go.Proofs.Ytjpdcnaealdbjaa.threadsFunctionsMatchSpec
namespace Go.Proofs.Ytjpdcnaealdbjaa
/-- The statement, under a short name, for the claim. -/
theorem threadsFunctionsMatchSpec_holds : Rows.ThreadsFunctionsMatchSpecSaid := threadsFunctionsMatchSpec.proved
#print axioms threadsFunctionsMatchSpec_holds
end Go.Proofs.Ytjpdcnaealdbjaa
