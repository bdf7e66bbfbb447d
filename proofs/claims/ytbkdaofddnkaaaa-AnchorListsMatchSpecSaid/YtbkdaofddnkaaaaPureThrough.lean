/- A line through several patches, in plain words: by the template tmpl/PureThrough.lean of this repo. -/
import Derived.Test.YtbkdaofddnkaaaaPureAnchor
import Derived.Test.YtbkdaofddnkaaaaPAmx30
namespace Go.Proofs.Ytbkdaofddnkaaaa.Pu
open Go.RowKit Go.Proofs.YtbkdaofddnkaaaaW.PrintWords Go.Proofs.YtbkdaofddnkaaaaW.PrintLast Go.Proofs.Ytbkdaofddnkaaaa.PAm
set_option linter.unusedVariables false
set_option linter.unusedSimpArgs false

theorem Valid_mono {t : List Hk} {a b : Int} (hab : a ≤ b) (h : Valid b t) : Valid a t := by
  cases t with
  | nil => trivial
  | cons h t => obtain ⟨a1, a2, a3, a4, a5, a6, a7, a8⟩ := h; exact ⟨a1, a2, a3, a4, a5, by omega, a7, a8⟩
/-- The place of a line is no negative number. -/
theorem place_nonneg : ∀ (t : List Hk) (line shift e : Int), Valid e t → -e ≤ shift → e ≤ line → 0 ≤ (place t line shift).1
  | [], line, shift, e, _, h0, h1 => by simp only [place]; omega
  | h :: t, line, shift, e, hv, h0, h1 => by
    obtain ⟨_, _, _, _, _, f, _, hv'⟩ := hv
    unfold place
    by_cases c1 : line < h.f0
    · rw [if_pos c1]; show 0 ≤ line + shift; omega
    · rw [if_neg c1]
      by_cases c2 : line < h.f0 + h.f1.length
      · rw [if_pos c2]; show 0 ≤ h.f0 + shift; omega
      · rw [if_neg c2]
        exact place_nonneg t line _ (h.f0 + h.f1.length) (Valid_mono (by omega) hv') (by omega) (by omega)
abbrev Pt := S45
theorem rd_patch {xs : List Pt} {j : Nat} {p : Pt} (hg : ∀ d, xs.getD j d = p) : rd_T45 xs (j : Int) = p := by
  unfold rd_T45
  rw [Int.toNat_natCast]
  exact hg _
/-- The first patch that is no valid one. -/
def firstBad : List Pt → Int → Int × Int
  | [], _ => (0, 0)
  | p :: t, j => if (patchV p.f0).1 = 0 then firstBad t (j + 1) else ((patchV p.f0).1, j)
/-- Where a line comes to, and how many patches keep it. -/
def thr : List Pt → Int → Int → Int × Int
  | [], line, c => (line, c)
  | p :: t, line, c => if (place p.f0 line 0).2 = true then thr t (place p.f0 line 0).1 (c + 1) else (line, c)
def throughV (ps : List Pt) (line : Int) : Int × Int × Int × Int :=
  if ps.length > 12 then (0, 0, 2, -1) else if (lineF line).1 ≠ 0 then (0, 0, 3, -2) else if (firstBad ps 0).1 ≠ 0 then (0, 0, (firstBad ps 0).1, (firstBad ps 0).2) else ((thr ps line 0).1, (thr ps line 0).2, 0, 0)
theorem firstBad_zero : ∀ (t : List Pt) (j : Int), (firstBad t j).1 = 0 ↔ ∀ p ∈ t, (patchV p.f0).1 = 0
  | [], j => by simp [firstBad]
  | p :: t, j => by
    unfold firstBad
    by_cases h : (patchV p.f0).1 = 0
    · rw [if_pos h, firstBad_zero t]
      simp [h]
    · rw [if_neg h]
      simp [h]
theorem through_l1 (xs : List Pt) (hm : xs.length ≤ 12) (hall : ∀ p ∈ xs, (patchV p.f0).1 = 0) : ∀ (t : List Pt) (j : Nat) (line : Int), xs.drop j = t → j ≤ xs.length → 0 ≤ line → line ≤ 200000 * ((j : Int) + 1) →
    Ev (fun k => anchor_Through.l1 k xs line xs (xs.length : Int) (j : Int)) ((thr t line (j : Int)).1, (thr t line (j : Int)).2, 0, 0) := by
  intro t
  induction t with
  | nil =>
    intro j line h hj l0 l1
    have := drop_nil h
    refine Ev.succ ?_
    simp only [anchor_Through.l1]
    refine Ev.neg (by omega) ?_
    have e : (xs.length : Int) = (j : Int) := by omega
    rw [e]
    exact Ev.now _
  | cons p t ih =>
    intro j line h hj l0 l1
    obtain ⟨hl, hg, ht⟩ := drop_cons h
    have hr := rd_patch hg
    obtain ⟨_, hm2, hv⟩ := patchV_zero (hall p (mem_drop h))
    refine Ev.succ ?_
    simp only [anchor_Through.l1]
    refine Ev.pos (by omega) (Ev.pos (by omega) (Ev.pos (by omega) ?_))
    simp only [hr]
    refine Ev.bind (Place_ev hm2 hv line (by omega) (by omega)) ?_
    unfold thr
    by_cases hk : (place p.f0 line 0).2 = true
    · have hb := place_bounds p.f0 line 0 0 hv l0
      have hn := place_nonneg p.f0 line 0 0 hv (by omega) l0
      simp only [if_pos hk]
      rw [wsucc (by omega)]
      have := ih (j + 1) (place p.f0 line 0).1 ht (by omega) hn (by omega)
      simpa using this
    · simp only [if_neg hk]
      exact Ev.now _
theorem through_l0 (xs : List Pt) (hm : xs.length ≤ 12) (line : Int) (h0 : 0 ≤ line) (h1 : line < 120) : ∀ (t : List Pt) (j : Nat), xs.drop j = t → j ≤ xs.length → (∀ p ∈ xs.take j, (patchV p.f0).1 = 0) →
    Ev (fun k => anchor_Through.l0 k xs line xs (xs.length : Int) (j : Int)) (if (firstBad t (j : Int)).1 ≠ 0 then (0, 0, (firstBad t (j : Int)).1, (firstBad t (j : Int)).2) else ((thr xs line 0).1, (thr xs line 0).2, 0, 0)) := by
  intro t
  induction t with
  | nil =>
    intro j h hj hall
    have := drop_nil h
    refine Ev.succ ?_
    simp only [anchor_Through.l0]
    refine Ev.neg (by omega) ?_
    rw [if_neg (by simp [firstBad])]
    have ha : ∀ p ∈ xs, (patchV p.f0).1 = 0 := by
      rw [List.take_of_length_le (by omega)] at hall
      exact hall
    exact through_l1 xs hm ha xs 0 line rfl (by omega) h0 (by omega)
  | cons p t ih =>
    intro j h hj hall
    obtain ⟨hl, hg, ht⟩ := drop_cons h
    have hr := rd_patch hg
    refine Ev.succ ?_
    simp only [anchor_Through.l0]
    refine Ev.pos (by omega) (Ev.pos (by omega) (Ev.pos (by omega) ?_))
    simp only [hr]
    refine Ev.bind (patch_Validate_ev p.f0) ?_
    by_cases hz : (patchV p.f0).1 = 0
    · refine Ev.pos ((patchV_test _).2 hz) ?_
      rw [wsucc (by omega)]
      have := ih (j + 1) ht (by omega) (by
        intro q hq
        rw [List.take_succ_eq_append_getElem hl] at hq
        rcases List.mem_append.1 hq with hq | hq
        · exact hall q hq
        · have e : xs[j] = p := by have := hg p; simpa [List.getD, List.getElem?_eq_getElem hl] using this
          rw [List.mem_singleton.1 hq, e]
          exact hz)
      have e : firstBad (p :: t) (j : Int) = firstBad t ((j + 1 : Nat) : Int) := by
        conv => lhs; unfold firstBad
        rw [if_pos hz]
        rfl
      rw [e]
      exact this
    · refine Ev.neg (fun e => hz ((patchV_test _).1 e)) ?_
      have e : firstBad (p :: t) (j : Int) = ((patchV p.f0).1, (j : Int)) := by
        unfold firstBad
        rw [if_neg hz]
      rw [e, if_pos hz]
      exact Ev.now _
theorem Through_ev (ps : List Pt) (line : Int) : Ev (fun k => anchor_Through.f k ps line) (throughV ps line) := by
  unfold anchor_Through.f throughV
  by_cases h : ps.length > 12
  · rw [if_pos h]
    exact Ev.pos (by omega) (Ev.now _)
  · rw [if_neg h]
    refine Ev.neg (by omega) ?_
    simp only [lineFault_eq, Option.bind_some]
    unfold lineF
    by_cases hl : line < 0 ∨ line ≥ 120
    · simp only [if_pos hl]
      rw [if_pos (by decide)]
      exact Ev.neg (by decide) (Ev.now _)
    · simp only [if_neg hl]
      rw [if_neg (by decide)]
      refine Ev.pos (by decide) ?_
      exact through_l0 ps (by omega) line (by omega) (by omega) ps 0 rfl (by omega) (by simp)
theorem thr_count : ∀ (t : List Pt) (line c : Int), thr t line c = ((thr t line 0).1, c + (thr t line 0).2) ∧ 0 ≤ (thr t line 0).2 ∧ (thr t line 0).2 ≤ t.length
  | [], line, c => by simp [thr]
  | p :: t, line, c => by
    unfold thr
    by_cases hk : (place p.f0 line 0).2 = true
    · simp only [if_pos hk]
      obtain ⟨e1, b1, b2⟩ := thr_count t (place p.f0 line 0).1 (c + 1)
      obtain ⟨e2, _, _⟩ := thr_count t (place p.f0 line 0).1 (0 + 1)
      rw [e1, e2]
      simp only [List.length_cons]
      exact ⟨Prod.ext rfl (by show c + 1 + _ = c + (0 + 1 + _); omega), by omega, by omega⟩
    · simp only [if_neg hk, List.length_cons]
      exact ⟨Prod.ext rfl (by show c = c + 0; omega), by omega, by omega⟩
theorem thr_append : ∀ (a b : List Pt) (line c : Int), thr (a ++ b) line c = if (thr a line 0).2 = a.length then thr b (thr a line 0).1 (c + a.length) else thr a line c
  | [], b, line, c => by simp [thr]
  | p :: t, b, line, c => by
    obtain ⟨e2, b1, b2⟩ := thr_count t (place p.f0 line 0).1 (0 + 1)
    show thr (p :: (t ++ b)) line c = _
    by_cases hk : (place p.f0 line 0).2 = true
    · have k1 : ∀ (s : List Pt) (d : Int), thr (p :: s) line d = thr s (place p.f0 line 0).1 (d + 1) := fun s d => by
        conv => lhs; unfold thr
        rw [if_pos hk]
      rw [k1, k1, k1, thr_append t b _ _, e2]
      simp only [List.length_cons]
      by_cases h : (thr t (place p.f0 line 0).1 0).2 = t.length
      · rw [if_pos h, if_pos (by omega)]
        congr 1
        omega
      · rw [if_neg h, if_neg (by omega)]
    · have k1 : ∀ (s : List Pt) (d : Int), thr (p :: s) line d = (line, d) := fun s d => by
        conv => lhs; unfold thr
        rw [if_neg hk]
      rw [k1, k1, k1, if_neg (by simp only [List.length_cons]; omega)]
end Go.Proofs.Ytbkdaofddnkaaaa.Pu
