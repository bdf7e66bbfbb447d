/- MapBack of the place of a kept line is the line: the law AnchorBackAndForth returns true, for every patch and line. -/
import Derived.Test.YtbkdaofddnkaaaaOkAnchorBackAndForth
import Derived.Test.YtbkdaofddnkaaaaPureAnchor
namespace Go.Proofs.Ytbkdaofddnkaaaa.Pure
open Go.RowKit Go.Proofs.YtbkdaofddnkaaaaW.PrintWords Go.Proofs.YtbkdaofddnkaaaaW.PrintLast Go.Proofs.Ytbkdaofddnkaaaa.PAn Go.Proofs.Ytbkdaofddnkaaaa.Pu

theorem AnchorBackAndForth : changeforgelaw7_AnchorBackAndForth.Pure := by
  intro x0 line _ _
  refine Ev.rounds ?_
  unfold changeforgelaw7_AnchorBackAndForth.f
  refine Ev.bind (Map_ev x0.f0 line) (Ev.bind (MapBack_ev x0.f0 _) (Ev.bind anchorExample_ev ?_))
  simp only [if_true]
  by_cases h1 : (mapV x0.f0 line).2.2.1 = 0
  · refine Ev.pos h1 ?_
    by_cases h2 : (backV x0.f0 (mapV x0.f0 line).1).2.2.1 = 0
    · refine Ev.pos h2 ?_
      by_cases h3 : (mapV x0.f0 line).2.1 = true
      · refine Ev.pos h3 ?_
        have key : backV x0.f0 (mapV x0.f0 line).1 = (line, true, 0, 0) := by
          have hz : (patchV x0.f0).1 = 0 := by
            by_cases hz : (patchV x0.f0).1 = 0
            · exact hz
            · unfold mapV at h1
              rw [if_neg hz] at h1
              exact h1
          obtain ⟨_, hm, hv⟩ := patchV_zero hz
          have hl : ¬ (line < 0 ∨ line ≥ 120) := by
            intro hl
            unfold mapV at h1
            rw [if_pos hz, if_pos hl] at h1
            simp at h1
          have em : mapV x0.f0 line = ((place x0.f0 line 0).1, (place x0.f0 line 0).2, 0, 0) := by
            unfold mapV
            rw [if_pos hz, if_neg hl]
          rw [em] at h3 h2 ⊢
          have hi : (patchV (invs x0.f0 0)).1 = 0 := by
            by_cases hi : (patchV (invs x0.f0 0)).1 = 0
            · exact hi
            · unfold backV inverse at h2
              rw [if_pos hz, if_neg hi, if_neg (by decide)] at h2
              simp at h2
          have ei : inverse x0.f0 = (invs x0.f0 0, 0, 0) := by
            unfold inverse
            rw [if_pos hz, if_pos hi]
          unfold backV at h2 ⊢
          rw [ei, if_pos rfl] at h2 ⊢
          unfold mapV at h2 ⊢
          rw [if_pos hi] at h2 ⊢
          have hl2 : ¬ ((place x0.f0 line 0).1 < 0 ∨ (place x0.f0 line 0).1 ≥ 120) := by
            intro hl2
            rw [if_pos hl2] at h2
            simp at h2
          rw [if_neg hl2]
          have hp := place_inv x0.f0 line 0 0 hv h3
          rw [show (-(0 : Int)) = 0 from rfl] at hp
          rw [hp]
        rw [key]
        simp only [if_true, beq_self_eq_true]
        exact Ev.now _
      · exact Ev.neg h3 (Ev.now _)
    · exact Ev.neg h2 (Ev.now _)
  · exact Ev.neg h1 (Ev.now _)

end Go.Proofs.Ytbkdaofddnkaaaa.Pure
