/- What the functions of lines and textpatch compute, in plain words: by the template tmpl/PureLines.lean of this repo. -/
import Derived.Test.YtbkdaofddnkaaaaEv
import Derived.Test.YtbkdaofddnkaaaaPAmx16
namespace Go.Proofs.Ytbkdaofddnkaaaa.Pu
open Go.RowKit Go.Proofs.YtbkdaofddnkaaaaW.PrintWords Go.Proofs.YtbkdaofddnkaaaaW.PrintLast Go.Proofs.Ytbkdaofddnkaaaa.PAm
set_option linter.unusedVariables false
set_option linter.unusedSimpArgs false

theorem indexByte_mem (l : List UInt8) (c : UInt8) : (0 ≤ Lib.indexByte l c) ↔ c ∈ l := by
  induction l with
  | nil => simp [Lib.indexByte]
  | cons b t ih =>
    have hg := Lib.indexByte_ge t c
    unfold Lib.indexByte
    by_cases h : (b == c) = true
    · rw [if_pos h]
      have : b = c := by simpa using h
      subst this
      simp
    · rw [if_neg h]
      have hne : ¬ c = b := by intro e; subst e; simp at h
      simp only [List.mem_cons, hne, false_or]
      by_cases h1 : (Lib.indexByte t c == -1) = true
      · rw [if_pos h1]
        have : Lib.indexByte t c = -1 := by simpa using h1
        rw [← ih]
        omega
      · rw [if_neg h1]
        have : ¬ Lib.indexByte t c = -1 := by simpa using h1
        rw [← ih]
        omega
def lineC (s : ByteArray) : Int := if s.size > 80 then 2 else if 10 ∈ s.data.toList then 5 else 0
def linesFrom : List ByteArray → Int → Int × Int
  | [], _ => (0, 0)
  | s :: t, j => if lineC s = 0 then linesFrom t (j + 1) else (lineC s, j)
def linesV (l : List ByteArray) : Int × Int := if l.length > 120 then (2, -1) else linesFrom l 0
theorem contains_nl (s : ByteArray) : strings_ContainsRune.f s 10 = some (decide ((10 : UInt8) ∈ s.data.toList)) := by
  unfold strings_ContainsRune.f
  rw [if_pos (by omega)]
  congr 1
  rw [Bool.eq_iff_iff, decide_eq_true_iff, decide_eq_true_iff]
  exact indexByte_mem _ _
theorem lines_loop (xs : List ByteArray) (hm : xs.length ≤ 120) : ∀ (t : List ByteArray) (j : Nat), xs.drop j = t → j ≤ xs.length →
    Ev (fun k => lines_Validate.l0 k xs (xs.length : Int) (j : Int)) (linesFrom t (j : Int)) := by
  intro t
  induction t with
  | nil =>
    intro j h hj
    have := drop_nil h
    refine Ev.succ ?_
    simp only [lines_Validate.l0]
    refine Ev.neg (by omega) ?_
    exact Ev.now _
  | cons s t ih =>
    intro j h hj
    obtain ⟨hl, hg, ht⟩ := drop_cons h
    have hr : rdOf ByteArray.empty xs (j : Int) = s := by simp only [rdOf, Int.toNat_natCast]; exact hg _
    refine Ev.succ ?_
    simp only [lines_Validate.l0]
    refine Ev.pos (by omega) (Ev.pos (by omega) (Ev.pos (by omega) ?_))
    simp only [hr]
    unfold linesFrom lineC
    by_cases h1 : s.size > 80
    · refine Ev.pos (show ((s.size : Nat) : Int) > 80 by omega) ?_
      simp only [if_pos h1]
      exact Ev.now _
    · refine Ev.neg (show ¬ ((s.size : Nat) : Int) > 80 by omega) ?_
      simp only [if_neg h1, contains_nl, Option.bind_some]
      by_cases h2 : (10 : UInt8) ∈ s.data.toList
      · simp only [h2, decide_true, if_true]
        exact Ev.now _
      · simp only [h2, decide_false, Bool.false_eq_true, if_false, if_true]
        rw [wsucc (by omega)]
        have := ih (j + 1) ht (by omega)
        simpa using this
theorem lines_Validate_ev (xs : List ByteArray) : Ev (fun k => lines_Validate.f k xs) (linesV xs) := by
  unfold lines_Validate.f linesV
  by_cases h : xs.length > 120
  · rw [if_pos h]
    exact Ev.pos (by omega) (Ev.now _)
  · rw [if_neg h]
    exact Ev.neg (by omega) (lines_loop xs (by omega) xs 0 rfl (by omega))
theorem lines_Code_ev (xs : List ByteArray) : Ev (fun k => lines_Code.f k xs) (linesV xs).1 := by
  unfold lines_Code.f
  exact Ev.bind (lines_Validate_ev xs) (Ev.now _)
theorem linesV_len {xs : List ByteArray} (h : (linesV xs).1 = 0) : xs.length ≤ 120 := by
  unfold linesV at h
  by_cases hl : xs.length > 120
  · rw [if_pos hl] at h
    simp at h
  · omega

abbrev Hk := S57
def hunkC (h : Hk) (low : Int) : Int :=
  if h.f0 < 0 ∨ h.f0 > 120 then 3 else if (linesV h.f1).1 ≠ 0 then (linesV h.f1).1 else if (linesV h.f2).1 ≠ 0 then (linesV h.f2).1
  else if (h.f1.length = 0 ∧ h.f2.length = 0) ∨ h.f0 < low then 5 else if h.f0 + h.f1.length > 120 then 3 else 0
def patchFrom : List Hk → Int → Int → Int × Int
  | [], _, _ => (0, 0)
  | h :: t, low, j => if hunkC h low = 0 then patchFrom t (h.f0 + h.f1.length + 1) (j + 1) else (hunkC h low, j)
def patchV (hs : List Hk) : Int × Int := if hs.length > 130 then (2, -1) else patchFrom hs 0 0
theorem End_eq (h : Hk) (h0 : 0 ≤ h.f0) (h1 : h.f0 ≤ 120) (h2 : h.f1.length ≤ 120) : textpatch_End.f h.f0 h.f1 h.f2 = some (h.f0 + h.f1.length) := by
  unfold textpatch_End.f
  rw [w64 (by omega) (by omega)]
theorem hunk_j1 (h : Hk) (b : Bool) (h0 : 0 ≤ h.f0) (h1 : h.f0 ≤ 120) (h2 : h.f1.length ≤ 120) :
    Ev (fun k => textpatch_hunkCode.j1 k b h.f0 h.f1 h.f2) (if b = true then 5 else if h.f0 + h.f1.length > 120 then 3 else 0) := by
  refine Ev.succ ?_
  simp only [textpatch_hunkCode.j1]
  by_cases hb : b = true
  · simp only [if_pos hb]
    exact Ev.now _
  · simp only [if_neg hb, End_eq h h0 h1 h2, Option.bind_some]
    by_cases h3 : h.f0 + h.f1.length > 120
    · simp only [if_pos h3]
      exact Ev.now _
    · simp only [if_neg h3]
      exact Ev.now _
theorem hunk_j0 (h : Hk) (low : Int) (b : Bool) (hb : b = decide (h.f0 < 0 ∨ h.f0 > 120)) : Ev (fun k => textpatch_hunkCode.j0 k low b h.f0 h.f1 h.f2) (hunkC h low) := by
  refine Ev.succ ?_
  simp only [textpatch_hunkCode.j0]
  unfold hunkC
  by_cases h0 : h.f0 < 0 ∨ h.f0 > 120
  · simp only [hb, h0, decide_true, if_true]
    exact Ev.now _
  · simp only [hb, h0, decide_false, Bool.false_eq_true, if_false]
    refine Ev.bind (lines_Code_ev h.f1) ?_
    by_cases h1 : (linesV h.f1).1 = 0
    · have hl1 := linesV_len h1
      simp only [h1, if_true, ne_eq, not_true_eq_false, if_false]
      refine Ev.bind (lines_Code_ev h.f2) ?_
      by_cases h2 : (linesV h.f2).1 = 0
      · simp only [h2, if_true, ne_eq, not_true_eq_false, if_false]
        by_cases a : h.f1.length = 0
        · refine Ev.pos (show ((h.f1.length : Nat) : Int) = 0 by omega) ?_
          by_cases b : h.f2.length = 0
          · refine Ev.pos (show ((h.f2.length : Nat) : Int) = 0 by omega) ?_
            have := hunk_j1 h true (by omega) (by omega) hl1
            simpa only [a, b, and_self, true_or, if_true] using this
          · refine Ev.neg (show ¬ ((h.f2.length : Nat) : Int) = 0 by omega) ?_
            have := hunk_j1 h (decide (h.f0 < low)) (by omega) (by omega) hl1
            simpa only [decide_eq_true_eq, b, and_false, false_or] using this
        · refine Ev.neg (show ¬ ((h.f1.length : Nat) : Int) = 0 by omega) ?_
          have := hunk_j1 h (decide (h.f0 < low)) (by omega) (by omega) hl1
          simpa only [decide_eq_true_eq, a, false_and, false_or] using this
      · simp only [h2, if_false, ne_eq, not_false_eq_true, if_true]
        exact Ev.bind (lines_Code_ev h.f2) (Ev.now _)
    · simp only [h1, if_false, ne_eq, not_false_eq_true, if_true]
      exact Ev.bind (lines_Code_ev h.f1) (Ev.now _)
theorem hunkCode_ev (h : Hk) (low : Int) : Ev (fun k => textpatch_hunkCode.f k h.f0 h.f1 h.f2 low) (hunkC h low) := by
  unfold textpatch_hunkCode.f
  by_cases h0 : h.f0 < 0
  · simp only [if_pos h0]
    exact hunk_j0 h low true (by simp [h0])
  · simp only [if_neg h0]
    exact hunk_j0 h low _ (by simp [h0])
theorem hunkC_ok {h : Hk} {low : Int} (hc : hunkC h low = 0) : 0 ≤ h.f0 ∧ h.f0 ≤ 120 ∧ (linesV h.f1).1 = 0 ∧ (linesV h.f2).1 = 0 ∧ ¬ (h.f1.length = 0 ∧ h.f2.length = 0) ∧ low ≤ h.f0 ∧ h.f0 + h.f1.length ≤ 120 := by
  unfold hunkC at hc
  by_cases h0 : h.f0 < 0 ∨ h.f0 > 120
  · rw [if_pos h0] at hc; simp at hc
  rw [if_neg h0] at hc
  by_cases h1 : (linesV h.f1).1 ≠ 0
  · rw [if_pos h1] at hc; exact absurd hc h1
  rw [if_neg h1] at hc
  by_cases h2 : (linesV h.f2).1 ≠ 0
  · rw [if_pos h2] at hc; exact absurd hc h2
  rw [if_neg h2] at hc
  by_cases h3 : (h.f1.length = 0 ∧ h.f2.length = 0) ∨ h.f0 < low
  · rw [if_pos h3] at hc; simp at hc
  rw [if_neg h3] at hc
  by_cases h4 : h.f0 + h.f1.length > 120
  · rw [if_pos h4] at hc; simp at hc
  have h1' : (linesV h.f1).1 = 0 := Decidable.not_not.1 h1
  have h2' : (linesV h.f2).1 = 0 := Decidable.not_not.1 h2
  exact ⟨by omega, by omega, h1', h2', fun e => h3 (.inl e), by omega, by omega⟩
theorem rd_hunk {xs : List Hk} {j : Nat} {h : Hk} (hg : ∀ d, xs.getD j d = h) : rd_T57 xs (j : Int) = h := by
  unfold rd_T57
  rw [Int.toNat_natCast]
  exact hg _
theorem patch_loop (xs : List Hk) (hm : xs.length ≤ 130) : ∀ (t : List Hk) (j : Nat) (low : Int), xs.drop j = t → j ≤ xs.length →
    Ev (fun k => textpatch_Validate.l0 k low xs (xs.length : Int) (j : Int)) (patchFrom t low (j : Int)) := by
  intro t
  induction t with
  | nil =>
    intro j low h hj
    have := drop_nil h
    refine Ev.succ ?_
    simp only [textpatch_Validate.l0]
    refine Ev.neg (by omega) ?_
    exact Ev.now _
  | cons s t ih =>
    intro j low h hj
    obtain ⟨hl, hg, ht⟩ := drop_cons h
    have hr := rd_hunk hg
    refine Ev.succ ?_
    simp only [textpatch_Validate.l0]
    refine Ev.pos (by omega) (Ev.pos (by omega) (Ev.pos (by omega) ?_))
    simp only [hr]
    refine Ev.bind (hunkCode_ev s low) ?_
    unfold patchFrom
    by_cases h1 : hunkC s low = 0
    · obtain ⟨a, b, c, _, _, _, d⟩ := hunkC_ok h1
      simp only [if_pos h1, End_eq s a b (linesV_len c), Option.bind_some]
      rw [w64 (by omega) (by omega), wsucc (by omega)]
      have := ih (j + 1) (s.f0 + s.f1.length + 1) ht (by omega)
      simpa using this
    · simp only [if_neg h1]
      exact Ev.now _
theorem patch_Validate_ev (hs : List Hk) : Ev (fun k => textpatch_Validate.f k hs) (patchV hs) := by
  unfold textpatch_Validate.f patchV
  by_cases h : hs.length > 130
  · rw [if_pos h]
    exact Ev.pos (by omega) (Ev.now _)
  · rw [if_neg h]
    exact Ev.neg (by omega) (patch_loop hs (by omega) hs 0 0 rfl (by omega))
/-- A valid list of hunks, the first one at 'low' or later. -/
def Valid : Int → List Hk → Prop
  | _, [] => True
  | low, h :: t => 0 ≤ h.f0 ∧ h.f0 ≤ 120 ∧ (linesV h.f1).1 = 0 ∧ (linesV h.f2).1 = 0 ∧ ¬ (h.f1.length = 0 ∧ h.f2.length = 0) ∧ low ≤ h.f0 ∧ h.f0 + h.f1.length ≤ 120 ∧ Valid (h.f0 + h.f1.length + 1) t
theorem hunkC_zero {h : Hk} {low : Int} (hv : 0 ≤ h.f0 ∧ h.f0 ≤ 120 ∧ (linesV h.f1).1 = 0 ∧ (linesV h.f2).1 = 0 ∧ ¬ (h.f1.length = 0 ∧ h.f2.length = 0) ∧ low ≤ h.f0 ∧ h.f0 + h.f1.length ≤ 120) : hunkC h low = 0 := by
  obtain ⟨a, b, c, d, e, f, g⟩ := hv
  unfold hunkC
  rw [if_neg (by omega), if_neg (by simp [c]), if_neg (by simp [d]), if_neg (by omega), if_neg (by omega)]
theorem patchFrom_valid : ∀ (t : List Hk) (low j : Int), (patchFrom t low j).1 = 0 ↔ Valid low t
  | [], low, j => by simp [patchFrom, Valid]
  | h :: t, low, j => by
    unfold patchFrom Valid
    by_cases hc : hunkC h low = 0
    · rw [if_pos hc, patchFrom_valid t _ _]
      obtain ⟨a, b, c, d, e, f, g⟩ := hunkC_ok hc
      exact ⟨fun hv => ⟨a, b, c, d, e, f, g, hv⟩, fun hv => hv.2.2.2.2.2.2.2⟩
    · rw [if_neg hc]
      exact ⟨fun e => absurd e hc, fun ⟨a, b, c, d, e, f, g, _⟩ => absurd (hunkC_zero ⟨a, b, c, d, e, f, g⟩) hc⟩
theorem patchFrom_zero : ∀ (t : List Hk) (low j : Int), (patchFrom t low j).1 = 0 → patchFrom t low j = (0, 0)
  | [], low, j => fun _ => by simp [patchFrom]
  | h :: t, low, j => by
    unfold patchFrom
    by_cases hc : hunkC h low = 0
    · rw [if_pos hc]
      exact patchFrom_zero t _ _
    · rw [if_neg hc]
      exact fun e => absurd e hc
theorem patchV_zero {hs : List Hk} (h : (patchV hs).1 = 0) : patchV hs = (0, 0) ∧ hs.length ≤ 130 ∧ Valid 0 hs := by
  unfold patchV at h ⊢
  by_cases hl : hs.length > 130
  · rw [if_pos hl] at h
    simp at h
  · rw [if_neg hl] at h ⊢
    exact ⟨patchFrom_zero _ _ _ h, by omega, (patchFrom_valid _ _ _).1 h⟩
theorem patchV_of {hs : List Hk} (hl : hs.length ≤ 130) (hv : Valid 0 hs) : patchV hs = (0, 0) := by
  unfold patchV
  rw [if_neg (by omega)]
  exact patchFrom_zero _ _ _ ((patchFrom_valid _ _ _).2 hv)
theorem patchFrom_code : ∀ (t : List Hk) (low j : Int), 0 ≤ j → (patchFrom t low j).1 = 0 ∨ 0 ≤ (patchFrom t low j).2
  | [], low, j, _ => by simp [patchFrom]
  | h :: t, low, j, hj => by
    unfold patchFrom
    by_cases hc : hunkC h low = 0
    · rw [if_pos hc]
      exact patchFrom_code t _ _ (by omega)
    · rw [if_neg hc]
      exact .inr hj
theorem isZero_iff (p : Int × Int) : ((p.1 == 0 && (p.2 == 0)) = true) ↔ p = (0, 0) := by
  obtain ⟨a, b⟩ := p
  simp
/-- A fault is none just where its code is 0. -/
theorem patchV_test (hs : List Hk) : (((patchV hs).1 == 0 && ((patchV hs).2 == 0)) = true) ↔ (patchV hs).1 = 0 := by
  rw [isZero_iff]
  exact ⟨fun h => by rw [h], fun h => (patchV_zero h).1⟩
end Go.Proofs.Ytbkdaofddnkaaaa.Pu
