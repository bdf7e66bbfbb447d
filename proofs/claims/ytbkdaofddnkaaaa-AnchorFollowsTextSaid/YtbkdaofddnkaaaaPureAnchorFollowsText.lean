/- A kept line has the same contents at its new place, and kept lines stay in order: the law AnchorFollowsText returns true, for every patch and text. -/
import Derived.Test.YtbkdaofddnkaaaaOkAnchorFollowsText
import Derived.Test.YtbkdaofddnkaaaaPureKept
namespace Go.Proofs.Ytbkdaofddnkaaaa.Pure
open Go.RowKit Go.Proofs.YtbkdaofddnkaaaaW.PrintWords Go.Proofs.YtbkdaofddnkaaaaW.PrintLast Go.Proofs.Ytbkdaofddnkaaaa.PAn Go.Proofs.Ytbkdaofddnkaaaa.Pu
set_option linter.unusedVariables false
set_option linter.unusedSimpArgs false

theorem follows_loop (hs : List Hk) (text : List ByteArray) (hl : text.length ≤ 120) (hv : Valid 0 hs) (ha : ∀ q ∈ hs, q.f0 + q.f1.length ≤ text.length) (ho : (outF text hs 0).length ≤ 120) : ∀ (d j : Nat) (last : Int), j + d = text.length →
    (last = -1 ∨ ∃ i : Nat, i < j ∧ (place hs (i : Int) 0).2 = true ∧ last = (place hs (i : Int) 0).1) →
    Ev (fun k => changeforgelaw7_AnchorFollowsText.l0 k text (outF text hs 0) (keptL hs text.length) last (j : Int)) true := by
  have hkl : (keptL hs text.length).length = text.length := by simp [keptL]
  intro d
  induction d with
  | zero =>
    intro j last hj _
    refine Ev.succ ?_
    simp only [changeforgelaw7_AnchorFollowsText.l0]
    exact Ev.neg (by omega) (Ev.now _)
  | succ d ih =>
    intro j last hj hlast
    have hjl : j < text.length := by omega
    have hd' : (j + 1) + d = text.length := by omega
    have hr : rd (keptL hs text.length) (j : Int) = keptAt hs j := by
      unfold rd keptL
      rw [Int.toNat_natCast]
      simp [List.getD, hjl]
    refine Ev.succ ?_
    simp only [changeforgelaw7_AnchorFollowsText.l0]
    refine Ev.pos (by omega) (Ev.pos (by omega) ?_)
    rw [hr, wsucc (by omega)]
    by_cases hk : (place hs (j : Int) 0).2 = true
    · have e : keptAt hs j = (place hs (j : Int) 0).1 := by unfold keptAt; rw [if_pos hk]
      have hn := place_nonneg hs (j : Int) 0 0 hv (by omega) (by omega)
      obtain ⟨q, hq, ht⟩ := place_text text hs 0 j 0 hv ha (by omega) hjl hk
      have hq2 : (place hs (j : Int) 0).1 = (q : Int) := by omega
      have hlt : last < (place hs (j : Int) 0).1 := by
        rcases hlast with h1 | ⟨i, h1, h2, h3⟩
        · omega
        · rw [h3]
          exact place_mono hs (i : Int) (j : Int) 0 0 hv (by omega) h2 hk
      have hqo : q < (outF text hs 0).length := by
        rw [List.getElem?_eq_getElem hjl] at ht
        exact (List.getElem?_eq_some_iff.1 ht).1
      rw [e]
      refine Ev.neg (by omega) (Ev.neg (by omega) (Ev.neg (by omega) (Ev.pos (by omega) (Ev.pos (by omega) (Ev.pos (by omega) ?_)))))
      have r1 : rdOf ByteArray.empty (outF text hs 0) (place hs (j : Int) 0).1 = rdOf ByteArray.empty text (j : Int) := by
        rw [hq2]
        unfold rdOf
        rw [Int.toNat_natCast, Int.toNat_natCast]
        simp only [List.getD, ht]
      rw [r1]
      refine Ev.pos rfl ?_
      exact ih (j + 1) _ hd' (.inr ⟨j, by omega, hk, rfl⟩)
    · have e : keptAt hs j = -1 := by unfold keptAt; rw [if_neg hk]
      rw [e]
      refine Ev.pos (by omega) ?_
      refine ih (j + 1) last hd' ?_
      rcases hlast with h1 | ⟨i, h1, h2, h3⟩
      · exact .inl h1
      · exact .inr ⟨i, by omega, h2, h3⟩
theorem AnchorFollowsText : changeforgelaw7_AnchorFollowsText.Pure := by
  intro x0 text _ _
  refine Ev.rounds ?_
  unfold changeforgelaw7_AnchorFollowsText.f
  refine Ev.bind (Apply_ev x0.f0 text) (Ev.bind (Kept_ev x0.f0 _) (Ev.bind anchorExample_ev ?_))
  simp only [if_true]
  by_cases h1 : (applyV x0.f0 text).2.1 = 0
  · refine Ev.pos h1 ?_
    obtain ⟨hz, hlt, e, ho, ha⟩ := applyV_ok h1
    obtain ⟨_, hm, hv⟩ := patchV_zero hz
    have hl := linesV_len hlt
    have ek : keptV x0.f0 (text.length : Int) = (keptL x0.f0 text.length, 0, 0) := by
      unfold keptV
      rw [if_pos hz, if_neg (by omega), firstLong_none _ _ _ ha, Int.toNat_natCast]
    rw [e, ek]
    refine Ev.pos rfl ?_
    have hkl : (keptL x0.f0 text.length).length = text.length := by simp [keptL]
    simp only [hkl, bne_self_eq_false]
    refine Ev.succ ?_
    simp only [changeforgelaw7_AnchorFollowsText.j0]
    refine Ev.neg (by simp) ?_
    exact follows_loop x0.f0 text hl hv ha ho text.length 0 (-1) (by omega) (.inl rfl)
  · exact Ev.neg h1 (Ev.now _)

end Go.Proofs.Ytbkdaofddnkaaaa.Pure
