/- The functions of votes answer as the reference does: the law VotesFunctionsMatchSpec returns true, for every list of votes. -/
import Derived.Test.YtbkdaofddnkaaaaOkVotesFunctionsMatchSpec
import Derived.Test.YtbkdaofddnkaaaaPureVotesInv
namespace Go.Proofs.Ytbkdaofddnkaaaa.Pure
open Go.RowKit Go.Proofs.YtbkdaofddnkaaaaW.PrintWords Go.Proofs.YtbkdaofddnkaaaaW.PrintLast Go.Proofs.Ytbkdaofddnkaaaa.PVo Go.Proofs.Ytbkdaofddnkaaaa.Pu
set_option linter.unusedVariables false
set_option linter.unusedSimpArgs false

def scoV (l : List Vt) (tr : List Bool) (a : Int) : Int × Bool × Int × Int := (((countV l tr a).2.1.foldl scoStep (0, false)).1, ((countV l tr a).2.1.foldl scoStep (0, false)).2, (countV l tr a).2.2.1, (countV l tr a).2.2.2)
theorem Score_ev (l : List Vt) (tr : List Bool) (a : Int) : Ev (fun k => votes_Score.f k l tr a) (scoV l tr a) := by
  unfold votes_Score.f
  exact Ev.bind (count_ev l tr a) (Ev.now _)
theorem lastF_le (u a : Int) : ∀ (l : List Vt) (x : Vt), x.f1 ≤ a → (lastF u a x l).f1 ≤ a := by
  intro l
  induction l with
  | nil => intro x h; exact h
  | cons v t ih =>
    intro x h
    simp only [lastF]
    refine ih _ ?_
    split
    · rename_i c
      exact c.2
    · exact h
theorem spec_loop (l : List Vt) (tr : List Bool) (a : Int) (C U : List Int) (S : Int) (V : Bool) (la co : List Int) (ok : okV l tr) (a0 : 0 ≤ a) (a1 : a < (tr.length : Int)) (hla : la.length = 8) (hco : co.length = 8) (hC : C = co)
    (hu : ∀ u : Nat, u < 8 → la.getD u 0 = (lastF u a ⟨u, a, 0⟩ l).f2 ∧ co.getD u 0 = if countsV (lastF u a ⟨u, a, 0⟩ l) tr a = true then (lastF u a ⟨u, a, 0⟩ l).f2 else 0) :
    ∀ (d j : Nat) (lap : List Int) (sum : Int) (veto : Bool), j + d = 8 → lap.length ≤ j → (co.drop j).foldl scoStep (sum, veto) = (S, V) → lapF la co d j lap = U →
    Ev (fun k => changeforgelaw7_VotesFunctionsMatchSpec.l0 k l tr a C S V U (co.take j) lap sum veto (j : Int) 0 0 0 0 0 0) true := by
  intro d
  induction d with
  | zero =>
    intro j lap sum veto hj hlap hS hU
    have h8 : co.length ≤ j := by omega
    rw [List.drop_eq_nil_of_le h8] at hS
    simp only [List.foldl_nil, Prod.mk.injEq] at hS
    simp only [lapF] at hU
    refine Ev.succ ?_
    simp only [changeforgelaw7_VotesFunctionsMatchSpec.l0]
    refine Ev.neg (by omega) (Ev.pos (by trivial) (Ev.pos (by trivial) (Ev.pos (by trivial) ?_)))
    rw [List.take_of_length_le h8, hC]
    refine Ev.bind (sameInts_ev co (by omega)) (Ev.pos rfl (Ev.pos hS.1.symm (Ev.pos (by rw [hS.2]; simp) ?_)))
    rw [← hU]
    exact Ev.bind (sameInts_ev lap (by omega)) (Ev.now _)
  | succ d ih =>
    intro j lap sum veto hj hlap hS hU
    have hj8 : j < co.length := by omega
    obtain ⟨h1, h2⟩ := hu j (by omega)
    have et : co.take (j + 1) = co.take j ++ [co.getD j 0] := by
      rw [List.take_succ_eq_append_getElem hj8]
      simp [List.getD, hj8]
    rw [drop_fold scoStep (sum, veto) hj8, show scoStep (sum, veto) (co.getD j 0) = (wrap64 (sum + co.getD j 0), veto || co.getD j 0 == -2) from rfl] at hS
    simp only [lapF] at hU
    have hx1 : (lastF j a ⟨j, a, 0⟩ l).f1 ≤ a := lastF_le _ _ _ _ (Int.le_refl _)
    have hx0 : 0 ≤ (lastF j a ⟨j, a, 0⟩ l).f1 := by
      rcases lastF_mem j a l ⟨j, a, 0⟩ with h | h
      · rw [h]; exact a0
      · have := (okL_mem ok.2.2.2.2 _ h).1
        omega
    refine Ev.succ ?_
    simp only [changeforgelaw7_VotesFunctionsMatchSpec.l0]
    refine Ev.pos (by omega) (Ev.bind (LastVote_ev l j a ok.1) (Ev.bind (Counts_ev (lastF j a ⟨j, a, 0⟩ l) tr a a1 ok.2.2.1 hx0 hx1) ?_))
    rw [wsucc (by omega)]
    have hlt : (co.take j).length < 17592186044416 := by rw [List.length_take]; omega
    by_cases c : countsV (lastF j a ⟨j, a, 0⟩ l) tr a = true
    · rw [if_pos c] at h2
      have hlc : la.getD j 0 = co.getD j 0 := by rw [h1, h2]
      rw [if_pos hlc] at hU
      refine Ev.pos c (Ev.pos hlt (Ev.bind (Ev.now _) ?_))
      rw [← h2, ← et]
      refine Ev.ite (fun cv => ?_) (fun cv => ?_)
      · rw [cv] at hS
        exact ih (j + 1) lap _ true (by omega) (by omega) (by simpa only [Bool.true_or] using hS) hU
      · have cv' : veto = false := by simpa using cv
        rw [cv'] at hS
        exact ih (j + 1) lap _ _ (by omega) (by omega) (by simpa only [Bool.false_or] using hS) hU
    · rw [if_neg c] at h2
      refine Ev.neg c ?_
      rw [h2] at hS et
      have hv : (veto || ((0 : Int) == -2)) = veto := by simp
      refine Ev.ite (fun z => ?_) (fun z => ?_)
      · have hlc : la.getD j 0 = co.getD j 0 := by rw [h1, h2]; exact z
        rw [if_pos hlc] at hU
        refine Ev.pos hlt (Ev.bind (Ev.now _) ?_)
        rw [← et]
        refine Ev.ite (fun cv => ?_) (fun cv => ?_)
        · rw [cv] at hS
          exact ih (j + 1) lap _ true (by omega) (by omega) (by simpa only [Bool.true_or] using hS) hU
        · have cv' : veto = false := by simpa using cv
          rw [cv'] at hS
          exact ih (j + 1) lap _ _ (by omega) (by omega) (by simpa only [Bool.false_or] using hS) hU
      · have hlc : ¬ la.getD j 0 = co.getD j 0 := by rw [h1, h2]; exact z
        rw [if_neg hlc] at hU
        refine Ev.pos (by omega) (Ev.bind (Ev.now _) (Ev.pos hlt (Ev.bind (Ev.now _) ?_)))
        rw [← et]
        refine Ev.ite (fun cv => ?_) (fun cv => ?_)
        · rw [cv] at hS
          exact ih (j + 1) _ _ true (by omega) (by rw [List.length_append]; simp; omega) (by simpa only [Bool.true_or] using hS) hU
        · have cv' : veto = false := by simpa using cv
          rw [cv'] at hS
          exact ih (j + 1) _ _ _ (by omega) (by rw [List.length_append]; simp; omega) (by simpa only [Bool.false_or] using hS) hU
theorem VotesFunctionsMatchSpec : changeforgelaw7_VotesFunctionsMatchSpec.Pure := by
  intro l tr a hl htr ha
  refine Ev.rounds ?_
  unfold changeforgelaw7_VotesFunctionsMatchSpec.f
  refine Ev.bind (VotesFault_ev l tr) (Ev.bind (Current_ev l tr a) (Ev.bind (Score_ev l tr a) (Ev.bind (Lapsed_ev l tr a) (Ev.bind votesExample_ev (Ev.pos rfl (Ev.bind (Validate_ev l tr) ?_))))))
  have e0 : (!((validV l tr).1 == (validV l tr).1) || (!((validV l tr).2 == (validV l tr).2))) = false := by simp
  rw [e0]
  refine Ev.succ ?_
  simp only [changeforgelaw7_VotesFunctionsMatchSpec.j0]
  refine Ev.neg (by simp) ?_
  by_cases hv : (validV l tr).1 = 0
  · obtain ⟨ok, ev⟩ := validV_ok hv
    refine Ev.pos hv ?_
    have bad : (a < 0 ∨ a ≥ (tr.length : Int)) → Ev (fun k => changeforgelaw7_VotesFunctionsMatchSpec.j1 k l tr a (curV l tr a).1 (scoV l tr a).1 (scoV l tr a).2.1 (lapV l tr a).1 true (validV l tr).1 (validV l tr).2 (curV l tr a).2.1 (curV l tr a).2.2 (scoV l tr a).2.2.1 (scoV l tr a).2.2.2 (lapV l tr a).2.1 (lapV l tr a).2.2) true := by
      intro hb
      have ec : countV l tr a = (z8, z8, 3, -3) := by
        unfold countV
        rw [if_pos hv, if_pos hb]
      have e1 : curV l tr a = ([], 3, -3) := by unfold curV; rw [ec]; rfl
      have e2 : scoV l tr a = (0, false, 3, -3) := by unfold scoV; rw [ec]; decide +kernel
      have e3 : lapV l tr a = ([], 3, -3) := by unfold lapV; rw [ec]; decide +kernel
      rw [e1, e2, e3]
      refine Ev.succ ?_
      simp only [changeforgelaw7_VotesFunctionsMatchSpec.j1]
      refine Ev.pos (by trivial) (Ev.bind (Ev.now _) (Ev.succ ?_))
      simp only [changeforgelaw7_VotesFunctionsMatchSpec.j2]
      exact Ev.neg (by decide) (Ev.pos (by decide) (Ev.pos (by decide) (Ev.pos (by decide) (Ev.pos (by decide) (Ev.pos (by trivial) (Ev.neg (by decide) (Ev.now _)))))))
    by_cases h0 : a < 0
    · exact Ev.pos h0 (bad (.inl h0))
    · refine Ev.neg h0 ?_
      by_cases h1 : a ≥ (tr.length : Int)
      · rw [decide_eq_true h1]
        exact bad (.inr h1)
      · rw [decide_eq_false h1]
        have ec := ok_countV ok (show 0 ≤ a by omega) (show a < (tr.length : Int) by omega)
        have e1 : curV l tr a = ((runV tr (a.toNat + 1) 0 l z8 z8).2, 0, 0) := ok_curV ok (by omega) (by omega)
        have e2 : scoV l tr a = (((runV tr (a.toNat + 1) 0 l z8 z8).2.foldl scoStep (0, false)).1, ((runV tr (a.toNat + 1) 0 l z8 z8).2.foldl scoStep (0, false)).2, 0, 0) := by unfold scoV; rw [ec]
        have e3 : lapV l tr a = (lapF (runV tr (a.toNat + 1) 0 l z8 z8).1 (runV tr (a.toNat + 1) 0 l z8 z8).2 8 0 [], 0, 0) := by unfold lapV; rw [ec]
        rw [e1, e2, e3, ev]
        refine Ev.succ ?_
        simp only [changeforgelaw7_VotesFunctionsMatchSpec.j1]
        refine Ev.neg (by simp) (Ev.succ ?_)
        simp only [changeforgelaw7_VotesFunctionsMatchSpec.j2]
        refine Ev.pos (by trivial) ?_
        exact spec_loop l tr a _ _ _ _ _ _ ok (by omega) (by omega) (run_len tr _ 0 l z8 z8).1 (run_len tr _ 0 l z8 z8).2 rfl (fun u hu => count_users ok (by omega) (by omega) u hu) 8 0 [] 0 false rfl (Nat.le_refl _) rfl rfl
  · refine Ev.neg hv (Ev.succ ?_)
    have ec : countV l tr a = (z8, z8, (validV l tr).1, (validV l tr).2) := by
      unfold countV
      rw [if_neg hv]
    have e1 : curV l tr a = ([], (validV l tr).1, (validV l tr).2) := by
      unfold curV
      rw [ec]
      simp [hv]
    have e2 : scoV l tr a = (0, false, (validV l tr).1, (validV l tr).2) := by
      have hf : z8.foldl scoStep (0, false) = (0, false) := by decide +kernel
      unfold scoV
      rw [ec, hf]
    have e3 : lapV l tr a = ([], (validV l tr).1, (validV l tr).2) := by
      have hf : lapF z8 z8 8 0 [] = [] := by decide +kernel
      unfold lapV
      rw [ec, hf]
    rw [e1, e2, e3]
    simp only [changeforgelaw7_VotesFunctionsMatchSpec.j1]
    refine Ev.neg (by simp) (Ev.succ ?_)
    simp only [changeforgelaw7_VotesFunctionsMatchSpec.j2]
    exact Ev.neg hv (Ev.pos (by simp) (Ev.pos (by simp) (Ev.pos (by simp) (Ev.pos (by simp) (Ev.pos (by trivial) (Ev.neg (by decide) (Ev.now _)))))))
end Go.Proofs.Ytbkdaofddnkaaaa.Pure
