/- Following a line through two lists of patches one after the other is following it through both together: the law AnchorThroughComposes returns true where what it reads is of bulk at most 1048576. -/
import Derived.Test.YtbkdaofddnkaaaaOkAnchorThroughComposesU
import Derived.Test.YtbkdaofddnkaaaaPureThrough
namespace Go.Proofs.Ytbkdaofddnkaaaa.Pure
open Go.RowKit Go.Proofs.YtbkdaofddnkaaaaW.PrintWords Go.Proofs.YtbkdaofddnkaaaaW.PrintLast Go.Proofs.Ytbkdaofddnkaaaa.PAn Go.Proofs.Ytbkdaofddnkaaaa.Pu

theorem through_ok {ps : List Pt} {line : Int} (h : (throughV ps line).2.2.1 = 0) : ps.length ≤ 12 ∧ throughV ps line = ((thr ps line 0).1, (thr ps line 0).2, 0, 0) := by
  unfold throughV at h ⊢
  by_cases h1 : ps.length > 12
  · rw [if_pos h1] at h; simp at h
  rw [if_neg h1] at h ⊢
  by_cases h2 : (lineF line).1 ≠ 0
  · rw [if_pos h2] at h; simp at h
  rw [if_neg h2] at h ⊢
  by_cases h3 : (firstBad ps 0).1 ≠ 0
  · rw [if_pos h3] at h; exact absurd h h3
  rw [if_neg h3]
  exact ⟨by omega, rfl⟩
theorem AnchorThroughComposesU : changeforgelaw7_AnchorThroughComposes.PureU := by
  intro a b line ha hb _
  have la : a.length ≤ 1048576 := ha.1.2
  have lb : b.length ≤ 1048576 := hb.1.2
  refine Ev.rounds ?_
  unfold changeforgelaw7_AnchorThroughComposes.f
  refine Ev.bind (Through_ev a line) (Ev.bind (Through_ev b _) ?_)
  refine Ev.pos (by simp; omega) ?_
  simp only [Option.bind_some, List.nil_append]
  refine Ev.pos (by omega) ?_
  refine Ev.bind (Through_ev (a ++ b) line) (Ev.bind anchorExample_ev ?_)
  simp only [if_true]
  have j0t : ∀ x7 x8 x10 x11 x13 x14, Ev (fun k => changeforgelaw7_AnchorThroughComposes.j0 k a x7 x8 x10 x11 x13 x14 true) true := by
    intro x7 x8 x10 x11 x13 x14
    refine Ev.succ ?_
    simp only [changeforgelaw7_AnchorThroughComposes.j0, if_true]
    exact Ev.now _
  by_cases h1 : (throughV a line).2.2.1 = 0
  · refine Ev.pos h1 ?_
    by_cases h2 : (throughV b (throughV a line).1).2.2.1 = 0
    · refine Ev.pos h2 ?_
      by_cases h3 : (throughV (a ++ b) line).2.2.1 = 0
      · obtain ⟨la2, e1⟩ := through_ok h1
        obtain ⟨lb2, e2⟩ := through_ok h2
        obtain ⟨_, e3⟩ := through_ok h3
        rw [e1] at e2
        have happ := thr_append a b line 0
        obtain ⟨c1, c2, c3⟩ := thr_count a line 0
        obtain ⟨d1, d2, d3⟩ := thr_count b (thr a line 0).1 (0 + a.length)
        rw [e3]
        rw [e1]
        simp only [e2]
        refine Ev.succ ?_
        simp only [changeforgelaw7_AnchorThroughComposes.j0]
        refine Ev.neg (by simp) ?_
        rw [happ]
        by_cases hk : (thr a line 0).2 = a.length
        · rw [if_pos hk]
          refine Ev.neg (by omega) ?_
          rw [w64 (by omega) (by omega), d1]
          refine Ev.pos (by simp; omega) ?_
          simp only [beq_self_eq_true]
          exact Ev.now _
        · rw [if_neg hk]
          refine Ev.pos (by omega) (Ev.pos rfl ?_)
          simp only [beq_self_eq_true]
          exact Ev.now _
      · have e : ((throughV (a ++ b) line).2.2.1 != 0) = true := by simpa using h3
        rw [e]
        exact j0t _ _ _ _ _ _
    · exact Ev.neg h2 (j0t _ _ _ _ _ _)
  · exact Ev.neg h1 (j0t _ _ _ _ _ _)

end Go.Proofs.Ytbkdaofddnkaaaa.Pure
