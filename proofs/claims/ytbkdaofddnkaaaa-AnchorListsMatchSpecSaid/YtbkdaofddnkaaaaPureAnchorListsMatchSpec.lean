/- Through and Kept return the results and faults that the specification requires: the law AnchorListsMatchSpec returns true, for all patches, lines and lengths. -/
import Derived.Test.YtbkdaofddnkaaaaOkAnchorListsMatchSpec
import Derived.Test.YtbkdaofddnkaaaaPureMapSpec
import Derived.Test.YtbkdaofddnkaaaaPureThrough
import Derived.Test.YtbkdaofddnkaaaaPureKeptOnly
namespace Go.Proofs.Ytbkdaofddnkaaaa.Pure
open Go.RowKit Go.Proofs.YtbkdaofddnkaaaaW.PrintWords Go.Proofs.YtbkdaofddnkaaaaW.PrintLast Go.Proofs.Ytbkdaofddnkaaaa.PAm Go.Proofs.Ytbkdaofddnkaaaa.Pu

theorem thV_ev : ∀ (t : List Pt) (j : Nat), Ev (fun k => thV k t j) (firstBad t (j : Int))
  | [], j => Ev.now _
  | p :: t, j => by
    unfold thV firstBad
    refine Ev.bind (patch_Validate_ev p.f0) ?_
    by_cases h : (patchV p.f0).1 = 0
    · rw [if_pos h]
      refine Ev.pos h ?_
      have := thV_ev t (j + 1)
      simpa using this
    · rw [if_neg h]
      exact Ev.neg h (Ev.now _)
def vV (ps : List Pt) (line : Int) : Int × Int := if (ps.length : Int) > 12 then (2, -1) else (if line < 0 ∨ line ≥ 120 then (3, -2) else firstBad ps 0)
theorem thV0_ev (ps : List Pt) (line : Int) : Ev (fun k => thV0 k ps line) (vV ps line) := by
  unfold thV0 vV
  exact Ev.ite' (fun _ => Ev.now _) (fun _ => Ev.ite' (fun _ => Ev.now _) (fun _ => thV_ev ps 0))
/-- Where the line comes to, while it stays in front of line 120. -/
def uV : List Pt → Int → Int → Int × Int
  | [], w, c => (w, c)
  | p :: t, w, c => if w < 120 then (if (place p.f0 w 0).2 = true then uV t (place p.f0 w 0).1 (c + 1) else (w, c)) else (w, c)
theorem thW_eq : ∀ (t : List Pt) (w c : Int), (∀ p ∈ t, (patchV p.f0).1 = 0) → 0 ≤ w → thW t w c = some (uV t w c)
  | [], w, c, _, _ => rfl
  | p :: t, w, c, ha, h0 => by
    have hz := ha p List.mem_cons_self
    obtain ⟨o1, o2⟩ := trace_ok hz
    obtain ⟨_, hm, hv⟩ := patchV_zero hz
    unfold thW uV
    by_cases hw : w < 120
    · rw [if_pos hw, if_pos hw, if_pos ⟨h0, o1, o2⟩, place_at hz h0 (by omega)]
      by_cases hk : (place p.f0 w 0).2 = true
      · rw [if_pos hk, if_pos hk]
        exact thW_eq t _ _ (fun q hq => ha q (List.mem_cons_of_mem _ hq)) (place_nonneg p.f0 w 0 0 hv (by omega) h0)
      · rw [if_neg hk, if_neg hk]
    · rw [if_neg hw, if_neg hw]
theorem thr_uV : ∀ (t : List Pt) (w c : Int), 120 ≤ (uV t w c).1 ∨ thr t w c = uV t w c
  | [], w, c => .inr rfl
  | p :: t, w, c => by
    unfold uV thr
    by_cases hw : w < 120
    · rw [if_pos hw]
      by_cases hk : (place p.f0 w 0).2 = true
      · rw [if_pos hk, if_pos hk]
        exact thr_uV t _ _
      · rw [if_neg hk, if_neg hk]
        exact .inr rfl
    · rw [if_neg hw]
      exact .inl (by show 120 ≤ w; omega)
theorem th_ok (ps : List Pt) (line : Int) : ∃ u, (if (vV ps line).1 = 0 then thW ps line 0 else some (line, 0)) = some u ∧ thOk (throughV ps line) (vV ps line) u = true := by
  by_cases hl : (ps.length : Int) > 12
  · have ev : vV ps line = (2, -1) := by unfold vV; rw [if_pos hl]
    have et : throughV ps line = (0, 0, 2, -1) := by unfold throughV; rw [if_pos (by omega)]
    rw [ev, et]
    exact ⟨_, rfl, rfl⟩
  · by_cases hr : line < 0 ∨ line ≥ 120
    · have ev : vV ps line = (3, -2) := by unfold vV; rw [if_neg hl, if_pos hr]
      have et : throughV ps line = (0, 0, 3, -2) := by
        unfold throughV lineF
        rw [if_neg (by omega), if_pos (by rw [if_pos hr]; decide)]
      rw [ev, et]
      exact ⟨_, rfl, rfl⟩
    · have ev : vV ps line = firstBad ps 0 := by unfold vV; rw [if_neg hl, if_neg hr]
      rw [ev]
      by_cases hb : (firstBad ps 0).1 = 0
      · have et : throughV ps line = ((thr ps line 0).1, (thr ps line 0).2, 0, 0) := by
          unfold throughV lineF
          rw [if_neg (by omega), if_neg (by rw [if_neg hr]; decide), if_neg (by rw [hb]; decide)]
        rw [et, if_pos hb]
        refine ⟨_, thW_eq ps line 0 ((firstBad_zero ps 0).1 hb) (by omega), ?_⟩
        unfold thOk
        rw [if_pos hb]
        rcases thr_uV ps line 0 with h_ | h_
        · simp [h_]
        · simp [h_]
      · have et : throughV ps line = (0, 0, (firstBad ps 0).1, (firstBad ps 0).2) := by
          unfold throughV lineF
          rw [if_neg (by omega), if_neg (by rw [if_neg hr]; decide), if_pos hb]
        rw [et, if_neg hb]
        refine ⟨_, rfl, ?_⟩
        unfold thOk
        rw [if_neg hb]
        simp
theorem kpF_eq : ∀ (t : List Hk) (n b : Int) (i : Nat), Valid b t → kpF t n i = match firstLong t n (i : Int) with | some j => (19, j) | none => (0, 0)
  | [], n, b, i, _ => rfl
  | h :: t, n, b, i, hv => by
    obtain ⟨a1, a2, a3, a4, a5, a6, a7, hv'⟩ := hv
    have l1 := linesV_len a3
    unfold kpF firstLong
    rw [w64 (by omega) (by omega)]
    by_cases hg : h.f0 + (h.f1.length : Int) > n
    · rw [if_pos hg, if_pos hg]
    · rw [if_neg hg, if_neg hg]
      have := kpF_eq t n _ (i + 1) hv'
      rw [this, show (((i + 1 : Nat)) : Int) = (i : Int) + 1 by omega]
theorem kept_len (hs : List Hk) (n : Nat) : (keptL hs n).length = n := by unfold keptL; simp
theorem kept_ok {hs : List Hk} (hz : (patchV hs).1 = 0) {n : Int} (h0 : ¬ (n < 0 ∨ n > 120)) : kpOk hs n (keptL hs n.toNat) = true := by
  unfold kpOk
  rw [List.all_eq_true]
  intro i hi
  have hi' := List.mem_range.1 hi
  rw [decide_eq_true_eq]
  have hp := place_at hz (line := (i : Int)) (by omega) (by omega)
  rw [Int.toNat_natCast] at hp
  rw [hp]
  unfold keptL
  rw [List.getD_eq_getElem?_getD, List.getElem?_map, List.getElem?_range hi']
  rfl
theorem kp_ok (hs : List Hk) (n : Int) : kpAll hs n (keptV hs n) (kpW hs n (patchV hs)) = true := by
  by_cases hz : (patchV hs).1 = 0
  · obtain ⟨_, hm, hv⟩ := patchV_zero hz
    by_cases h0 : n < 0 ∨ n > 120
    · have ew : kpW hs n (patchV hs) = (3, -2) := by unfold kpW; rw [if_pos hz, if_pos h0]
      have ek : keptV hs n = ([], 3, -2) := by unfold keptV; rw [if_pos hz, if_pos h0]
      rw [ew, ek]
      rfl
    · have ew : kpW hs n (patchV hs) = kpF hs n 0 := by unfold kpW; rw [if_pos hz, if_neg h0]
      have ef := kpF_eq hs n 0 0 hv
      cases hf : firstLong hs n ((0 : Nat) : Int) with
      | some j =>
        have hf' : firstLong hs n 0 = some j := hf
        rw [hf] at ef
        have ek : keptV hs n = ([], 19, j) := by unfold keptV; rw [if_pos hz, if_neg h0, hf']
        have ef' : kpF hs n 0 = (19, j) := ef
        rw [ew, ek, ef']
        unfold kpAll
        rw [if_neg (show ¬ ((19 : Int) = 0) by decide)]
        simp
      | none =>
        have hf' : firstLong hs n 0 = none := hf
        rw [hf] at ef
        have ek : keptV hs n = (keptL hs n.toNat, 0, 0) := by unfold keptV; rw [if_pos hz, if_neg h0, hf']
        have ef' : kpF hs n 0 = (0, 0) := ef
        obtain ⟨o1, o2⟩ := trace_ok hz
        have hk := kept_ok hz h0
        have hn : ((keptL hs n.toNat).length : Int) = n := by rw [kept_len]; omega
        rw [ew, ek, ef']
        unfold kpAll
        rw [if_pos rfl, o1, hk, hn, decide_eq_true o2, decide_eq_true (show n ≤ 120 by omega)]
        simp
  · have ew : kpW hs n (patchV hs) = patchV hs := by unfold kpW; rw [if_neg hz]
    have ek : keptV hs n = ([], (patchV hs).1, (patchV hs).2) := by unfold keptV; rw [if_neg hz]
    rw [ew, ek]
    unfold kpAll
    rw [if_neg hz]
    simp
theorem AnchorListsMatchSpec : changeforgelaw7_AnchorListsMatchSpec.Pure := by
  intro x0 x1 line n _ _ _ _
  refine Ev.rounds ?_
  unfold changeforgelaw7_AnchorListsMatchSpec.f
  obtain ⟨u, hu, hok⟩ := th_ok x0 line
  refine Ev.bind (Through_ev x0 line) (Ev.bind (Kept_ev x1.f0 n) (Ev.bind anchorExample_ev (Ev.pos rfl (Ev.bind (thV0_ev x0 line) (Ev.bind (Ev.const (fun _ => hu)) (Ev.pos hok (Ev.bind (patch_Validate_ev x1.f0) (Ev.pos (kp_ok x1.f0 n) (Ev.now _)))))))))
end Go.Proofs.Ytbkdaofddnkaaaa.Pure
