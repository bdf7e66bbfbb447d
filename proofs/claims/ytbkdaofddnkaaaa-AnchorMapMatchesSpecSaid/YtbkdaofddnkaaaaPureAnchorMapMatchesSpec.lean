/- Map and MapBack return the results and faults that the specification requires: the law AnchorMapMatchesSpec returns true, for every patch and line. -/
import Derived.Test.YtbkdaofddnkaaaaOkAnchorMapMatchesSpec
import Derived.Test.YtbkdaofddnkaaaaPureMapSpec
namespace Go.Proofs.Ytbkdaofddnkaaaa.Pure
open Go.RowKit Go.Proofs.YtbkdaofddnkaaaaW.PrintWords Go.Proofs.YtbkdaofddnkaaaaW.PrintLast Go.Proofs.Ytbkdaofddnkaaaa.PAm Go.Proofs.Ytbkdaofddnkaaaa.Pu

theorem law_in {hs : List Hk} (hz : (patchV hs).1 = 0) (line : Int) : lawIn hs line (mapV hs line) (backV hs line) (invs hs 0, decide ((patchV (invs hs 0)).1 = 0)) = some true := by
  obtain ⟨hz2, hm, hv⟩ := patchV_zero hz
  by_cases hok : (patchV (invs hs 0)).1 = 0
  · have ei : inverse hs = (invs hs 0, 0, 0) := by
      unfold inverse
      rw [if_pos hz, if_pos hok]
    have eb : backV hs line = mapV (invs hs 0) line := by
      unfold backV
      rw [ei, if_pos rfl]
    rw [eb, decide_eq_true hok]
    unfold lawIn
    by_cases hl : line < 0 ∨ line ≥ 120
    · have em : ∀ xs : List Hk, (patchV xs).1 = 0 → mapV xs line = (0, false, 3, -2) := fun xs hx => by
        unfold mapV
        rw [if_pos hx, if_pos hl]
      rw [em _ hz, em _ hok, if_pos hl]
      rfl
    · have em : ∀ xs : List Hk, (patchV xs).1 = 0 → mapV xs line = ((place xs line 0).1, (place xs line 0).2, 0, 0) := fun xs hx => by
        unfold mapV
        rw [if_pos hx, if_neg hl]
      obtain ⟨p1, p2⟩ := trace_ok hz
      obtain ⟨q1, q2⟩ := trace_ok hok
      rw [em _ hz, em _ hok, if_neg hl]
      rw [if_pos ⟨p1, p2, rfl, by rw [place_at hz (by omega) (by omega)], by rw [place_at hz (by omega) (by omega)]⟩]
      rw [if_pos rfl, if_pos ⟨q1, q2, rfl, by rw [place_at hok (by omega) (by omega)], by rw [place_at hok (by omega) (by omega)]⟩]
  · have ei : inverse hs = ([], 10, -1) := by
      unfold inverse
      rw [if_pos hz, if_neg hok]
    have eb : backV hs line = (0, false, 10, -1) := by
      unfold backV
      rw [ei, if_neg (by decide)]
    rw [eb, decide_eq_false hok]
    unfold lawIn
    by_cases hl : line < 0 ∨ line ≥ 120
    · have em : mapV hs line = (0, false, 3, -2) := by
        unfold mapV
        rw [if_pos hz, if_pos hl]
      rw [em, if_pos hl]
      rfl
    · have em : mapV hs line = ((place hs line 0).1, (place hs line 0).2, 0, 0) := by
        unfold mapV
        rw [if_pos hz, if_neg hl]
      obtain ⟨p1, p2⟩ := trace_ok hz
      rw [em, if_neg hl]
      rw [if_pos ⟨p1, p2, rfl, by rw [place_at hz (by omega) (by omega)], by rw [place_at hz (by omega) (by omega)]⟩]
      rfl
theorem AnchorMapMatchesSpec : changeforgelaw7_AnchorMapMatchesSpec.Pure := by
  intro x0 line _ _
  refine Ev.rounds ?_
  unfold changeforgelaw7_AnchorMapMatchesSpec.f
  refine Ev.bind (Map_ev x0.f0 line) (Ev.bind (MapBack_ev x0.f0 _) (Ev.bind anchorExample_ev (Ev.pos rfl (Ev.bind (patch_Validate_ev x0.f0) ?_))))
  by_cases hz : (patchV x0.f0).1 = 0
  · refine Ev.pos hz (Ev.bind (Ev.const (Reversed_eq hz)) ?_)
    rw [law_in hz line]
    exact Ev.now _
  · have ei : inverse x0.f0 = ([], (patchV x0.f0).1, (patchV x0.f0).2) := by
      unfold inverse
      rw [if_neg hz]
    have em : mapV x0.f0 line = (0, false, (patchV x0.f0).1, (patchV x0.f0).2) := by
      unfold mapV
      rw [if_neg hz]
    have eb : backV x0.f0 line = (0, false, (patchV x0.f0).1, (patchV x0.f0).2) := by
      unfold backV
      rw [ei, if_neg (fun e => hz (congrArg Prod.fst e))]
    rw [em, eb]
    exact Ev.neg hz (Ev.pos ⟨rfl, rfl⟩ (Ev.now _))
end Go.Proofs.Ytbkdaofddnkaaaa.Pure
