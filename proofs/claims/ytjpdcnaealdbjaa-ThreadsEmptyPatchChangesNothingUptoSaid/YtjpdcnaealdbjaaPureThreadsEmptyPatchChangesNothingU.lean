/- A new version without hunks changes nothing: the law ThreadsEmptyPatchChangesNothing returns true where what it reads is of bulk at most 1048576. -/
import Derived.Test.YtjpdcnaealdbjaaOkThreadsEmptyPatchChangesNothingU
import Derived.Test.YtjpdcnaealdbjaaPureThreadsEx
namespace Go.Proofs.Ytjpdcnaealdbjaa.Pure
open Go.RowKit Go.Proofs.YtjpdcnaealdbjaaW.PrintWords Go.Proofs.YtjpdcnaealdbjaaW.PrintLast Go.Proofs.Ytjpdcnaealdbjaa.PTh Go.Proofs.Ytjpdcnaealdbjaa.Pu
set_option linter.unusedVariables false
set_option linter.unusedSimpArgs false

theorem same_loop (a : List S34) (hm : a.length < 9223372036854775807) : ∀ (d j : Nat), a.length - j = d → j ≤ a.length → Ev (fun k => changeforgelaw7_sameThreads.l0 k a a (j : Int)) true := by
  intro d
  induction d with
  | zero =>
    intro j h hj
    refine Ev.succ ?_
    simp only [changeforgelaw7_sameThreads.l0]
    exact Ev.neg (by omega) (Ev.now _)
  | succ d ih =>
    intro j h hj
    refine Ev.succ ?_
    simp only [changeforgelaw7_sameThreads.l0]
    refine Ev.pos (by omega) (Ev.pos (by omega) (Ev.pos (by omega) (Ev.pos (by simp) ?_)))
    rw [wsucc (by omega)]
    exact ih (j + 1) (by omega) (by omega)
theorem same_ev (a : List S34) (hm : a.length < 9223372036854775807) : Ev (fun k => changeforgelaw7_sameThreads.f k a a) true := by
  unfold changeforgelaw7_sameThreads.f
  exact Ev.pos rfl (same_loop a hm _ 0 rfl (by omega))
theorem eqs_loop (a : List ByteArray) (hm : a.length < 9223372036854775807) : ∀ (d j : Nat), a.length - j = d → j ≤ a.length → Ev (fun k => changeforgeref7_EqualStrings.l0 k a a (j : Int)) true := by
  intro d
  induction d with
  | zero =>
    intro j h hj
    refine Ev.succ ?_
    simp only [changeforgeref7_EqualStrings.l0]
    exact Ev.neg (by omega) (Ev.now _)
  | succ d ih =>
    intro j h hj
    refine Ev.succ ?_
    simp only [changeforgeref7_EqualStrings.l0]
    refine Ev.pos (by omega) (Ev.pos (by omega) (Ev.pos (by omega) (Ev.pos (by first | trivial | rfl) ?_)))
    rw [wsucc (by omega)]
    exact ih (j + 1) (by omega) (by omega)
theorem eqs_ev (a : List ByteArray) (hm : a.length < 9223372036854775807) : Ev (fun k => changeforgeref7_EqualStrings.f k a a) true := by
  unfold changeforgeref7_EqualStrings.f
  exact Ev.pos rfl (eqs_loop a hm _ 0 rfl (by omega))
theorem map_mv_nil (ths : List S34) : ths.map (mv []) = ths := by
  induction ths with
  | nil => rfl
  | cons t ts ih =>
    rw [List.map_cons, ih]
    congr 1
    unfold mv
    by_cases h : t.f3 = true
    · rw [if_pos h]
    · rw [if_neg h, if_pos (by rfl)]
      show (⟨t.f0, t.f1 + 0, t.f2, t.f3, t.f4⟩ : S34) = t
      rw [Int.add_zero]
theorem step_empty {text : List ByteArray} {ths : List S34} {us : Int} (h : (stepV text ths ⟨4, us, 0, 0, (⟨#[]⟩ : ByteArray), (⟨[]⟩ : S41)⟩).2.2 = 0) :
    stepV text ths ⟨4, us, 0, 0, (⟨#[]⟩ : ByteArray), (⟨[]⟩ : S41)⟩ = (text, ths, 0) := by
  unfold stepV at h ⊢
  simp only [show ¬ ((4 : Int) < 1) by decide, show ¬ ((4 : Int) < 4) by decide, show ¬ ((4 : Int) = 1) by decide, if_false, if_true] at h ⊢
  by_cases h0 : unusedV ⟨4, us, 0, 0, (⟨#[]⟩ : ByteArray), (⟨[]⟩ : S41)⟩ = true
  · rw [if_pos h0] at h; cases h
  rw [if_neg h0] at h ⊢
  by_cases h1 : us < 0
  · rw [if_pos h1] at h; cases h
  rw [if_neg h1] at h ⊢
  by_cases h2 : 7 < us
  · rw [if_pos h2] at h; cases h
  rw [if_neg h2] at h ⊢
  unfold patchS at h ⊢
  by_cases h3 : (applyV [] text).2.1 = 0
  · rw [if_pos h3, map_mv_nil]
    rfl
  · rw [if_neg h3] at h
    exact absurd h h3
theorem ThreadsEmptyPatchChangesNothingU : changeforgelaw7_ThreadsEmptyPatchChangesNothing.PureU := by
  intro l0 l1 us h0 h1 hs
  have lb : l1.length ≤ 1048576 := h1.1.2
  refine Ev.rounds ?_
  unfold changeforgelaw7_ThreadsEmptyPatchChangesNothing.f
  refine Ev.bind (Run_ev l0 l1) ?_
  refine Ev.pos (by simp only [List.length_nil]; omega) ?_
  simp only [Option.bind_some, List.nil_append]
  refine Ev.pos (by omega) ?_
  refine Ev.bind (Run_ev l0 _) (Ev.bind threadsExample_ev ?_)
  simp only [if_true]
  by_cases c1 : (RunV l0 l1).2.2.1 = 0
  · refine Ev.pos c1 ?_
    by_cases c2 : (RunV l0 (l1 ++ [(⟨4, us, 0, 0, (⟨#[]⟩ : ByteArray), (⟨[]⟩ : S41)⟩ : S43)])).2.2.1 = 0
    · refine Ev.pos c2 ?_
      obtain ⟨_, e2⟩ := RunV_append c2
      rw [e2] at c2
      obtain ⟨k1, k2, k3⟩ := RunV_ok c1
      have hf : Fit (RunV l0 l1).2.1 (RunV l0 l1).1 := by
        rw [k3] at c1 ⊢
        exact run_fit _ _ _ _ (fit_nil k1) c1
      simp only [runV] at c2 e2
      by_cases d : (stepV (RunV l0 l1).2.1 (RunV l0 l1).1 ⟨4, us, 0, 0, (⟨#[]⟩ : ByteArray), (⟨[]⟩ : S41)⟩).2.2 = 0
      · rw [if_pos d, step_empty d] at e2
        rw [e2]
        exact Ev.bind (same_ev _ (by have := RunV_len l0 l1; omega)) (Ev.pos rfl (Ev.bind (eqs_ev _ (by have := hf.1; omega)) (Ev.now _)))
      · rw [if_neg d] at c2
        exact absurd c2 d
    · exact Ev.neg c2 (Ev.now _)
  · exact Ev.neg c1 (Ev.now _)
end Go.Proofs.Ytjpdcnaealdbjaa.Pure
