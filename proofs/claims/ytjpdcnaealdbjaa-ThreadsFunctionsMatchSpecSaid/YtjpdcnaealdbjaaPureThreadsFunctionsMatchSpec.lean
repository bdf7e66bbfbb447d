/- Texts of this repo, joined: Ev, PureLines, PurePlace, PureApply, PurePlaceText, PureThreads, PureThreadsEx, PureThreadsPend, PureThreadsFun, PureThreadsFunctionsMatchSpec. -/
import Derived.Test.YtjpdcnaealdbjaaWMore
import Derived.Test.YtjpdcnaealdbjaaPThx19
import Derived.Test.YtjpdcnaealdbjaaPThx22
import Derived.Test.YtjpdcnaealdbjaaPThx21
import Derived.Test.YtjpdcnaealdbjaaTd
import Derived.Test.YtjpdcnaealdbjaaPThx30
import Derived.Test.YtjpdcnaealdbjaaPThx26
import Derived.Test.YtjpdcnaealdbjaaTf
import Derived.Test.YtjpdcnaealdbjaaPThx37
import Derived.Test.YtjpdcnaealdbjaaPThx27
import Derived.Test.YtjpdcnaealdbjaaOkThreadsFunctionsMatchSpec
/- Small words for the pure statements: rounds, lists from an index on. By the template tmpl/Ev.lean of this repo. -/
namespace Go.Proofs.Ytjpdcnaealdbjaa.Pu
open Go.RowKit Go.Proofs.YtjpdcnaealdbjaaW.PrintWords Go.Proofs.YtjpdcnaealdbjaaW.PrintLast

theorem Ev.succ {α : Type} {g : Nat → Option α} {r : α} (h : Ev (fun k => g (k + 1)) r) : Ev g r := by
  obtain ⟨K, h⟩ := h
  refine ⟨K + 1, fun k hk => ?_⟩
  obtain ⟨j, rfl⟩ : ∃ j, k = j + 1 := ⟨k - 1, by omega⟩
  exact h j (by omega)
theorem Ev.const {α : Type} {g : Nat → Option α} {r : α} (h : ∀ k, g k = some r) : Ev g r := ⟨0, fun k _ => h k⟩
theorem Ev.ite {α : Type} {c : Prop} [Decidable c] {g f : Nat → Option α} {r : α} (h : c → Ev g r) (k : ¬ c → Ev f r) : Ev (fun n => if c then g n else f n) r := by
  by_cases hc : c
  · simp only [if_pos hc]
    exact h hc
  · simp only [if_neg hc]
    exact k hc
theorem Ev.pos {α : Type} {c : Prop} [Decidable c] {g f : Nat → Option α} {r : α} (hc : c) (h : Ev g r) : Ev (fun n => if c then g n else f n) r := by simpa only [if_pos hc] using h
theorem Ev.neg {α : Type} {c : Prop} [Decidable c] {g f : Nat → Option α} {r : α} (hc : ¬ c) (h : Ev f r) : Ev (fun n => if c then g n else f n) r := by simpa only [if_neg hc] using h
theorem Ev.ite' {α : Type} {c : Prop} [Decidable c] {g f : Nat → Option α} {r s : α} (h : c → Ev g r) (k : ¬ c → Ev f s) : Ev (fun n => if c then g n else f n) (if c then r else s) := by
  by_cases hc : c
  · simp only [if_pos hc]
    exact h hc
  · simp only [if_neg hc]
    exact k hc
theorem drop_nil_or {α : Type} (xs : List α) (j : Nat) : (xs.drop j = [] ∧ xs.length ≤ j) ∨ ∃ a, xs.drop j = a :: xs.drop (j + 1) ∧ j < xs.length ∧ ∀ d, xs.getD j d = a := by
  rcases Nat.lt_or_ge j xs.length with h | h
  · refine .inr ⟨xs[j], List.drop_eq_getElem_cons h, h, fun d => by simp [List.getD, List.getElem?_eq_getElem h]⟩
  · exact .inl ⟨List.drop_eq_nil_of_le h, h⟩
theorem drop_cons {α : Type} {xs t : List α} {j : Nat} {a : α} (h : xs.drop j = a :: t) : j < xs.length ∧ (∀ d, xs.getD j d = a) ∧ xs.drop (j + 1) = t := by
  rcases drop_nil_or xs j with ⟨h0, _⟩ | ⟨b, h1, hl, hg⟩
  · rw [h0] at h; cases h
  · rw [h1] at h
    injection h with e1 e2
    exact ⟨hl, fun d => by rw [hg, e1], e2⟩
theorem drop_nil {α : Type} {xs : List α} {j : Nat} (h : xs.drop j = []) : xs.length ≤ j := by simpa using h
theorem w64 {x : Int} (h0 : -9223372036854775808 ≤ x) (h1 : x ≤ 9223372036854775807) : wrap64 x = x := by unfold wrap64; omega
theorem wsucc {j : Nat} (h : j < 9223372036854775807) : wrap64 ((j : Int) + 1) = ((j + 1 : Nat) : Int) := by rw [w64 (by omega) (by omega)]; omega
theorem len_eq (b : ByteArray) : b.data.toList.length = b.size := Array.length_toList
theorem loop_eq (b : ByteArray) : ∀ (n i : Nat) (r : List UInt8), b.size - i = n → ByteArray.toList.loop b i r = r.reverse ++ b.data.toList.drop i := by
  intro n
  induction n with
  | zero =>
    intro i r h
    unfold ByteArray.toList.loop
    rw [if_neg (by omega), List.drop_eq_nil_of_le (by rw [len_eq]; omega)]
    simp
  | succ n ih =>
    intro i r h
    unfold ByteArray.toList.loop
    rw [if_pos (by omega), ih (i + 1) _ (by omega)]
    have hl : i < b.data.toList.length := by rw [len_eq]; omega
    rw [List.drop_eq_getElem_cons hl]
    have hi : i < b.data.size := by simpa using hl
    simp only [ByteArray.get!, List.reverse_cons, List.append_assoc, List.singleton_append, Array.getElem_toList]
    rw [getElem!_pos b.data i hi]
theorem toList_data (b : ByteArray) : b.toList = b.data.toList := by
  unfold ByteArray.toList
  rw [loop_eq b _ 0 [] rfl]
  simp
theorem ba_ext {a b : ByteArray} (h : a.data.toList = b.data.toList) : a = b := by
  cases a; cases b; simp_all
theorem ba_eq {a b : ByteArray} : a.toList = b.toList ↔ a = b := ⟨fun h => by
  rw [toList_data, toList_data] at h
  exact ba_ext h, fun h => by rw [h]⟩
end Go.Proofs.Ytjpdcnaealdbjaa.Pu
/- What the functions of lines and textpatch compute, in plain words: by the template tmpl/PureLines.lean of this repo. -/
namespace Go.Proofs.Ytjpdcnaealdbjaa.Pu
open Go.RowKit Go.Proofs.YtjpdcnaealdbjaaW.PrintWords Go.Proofs.YtjpdcnaealdbjaaW.PrintLast Go.Proofs.Ytjpdcnaealdbjaa.PTh
set_option linter.unusedVariables false
set_option linter.unusedSimpArgs false

theorem indexByte_mem (l : List UInt8) (c : UInt8) : (0 ≤ Lib.indexByte l c) ↔ c ∈ l := by
  induction l with
  | nil => simp [Lib.indexByte]
  | cons b t ih =>
    have hg := Lib.indexByte_ge t c
    unfold Lib.indexByte
    by_cases h : (b == c) = true
    · rw [if_pos h]
      have : b = c := by simpa using h
      subst this
      simp
    · rw [if_neg h]
      have hne : ¬ c = b := by intro e; subst e; simp at h
      simp only [List.mem_cons, hne, false_or]
      by_cases h1 : (Lib.indexByte t c == -1) = true
      · rw [if_pos h1]
        have : Lib.indexByte t c = -1 := by simpa using h1
        rw [← ih]
        omega
      · rw [if_neg h1]
        have : ¬ Lib.indexByte t c = -1 := by simpa using h1
        rw [← ih]
        omega
def lineC (s : ByteArray) : Int := if s.size > 80 then 2 else if 10 ∈ s.data.toList then 5 else 0
def linesFrom : List ByteArray → Int → Int × Int
  | [], _ => (0, 0)
  | s :: t, j => if lineC s = 0 then linesFrom t (j + 1) else (lineC s, j)
def linesV (l : List ByteArray) : Int × Int := if l.length > 120 then (2, -1) else linesFrom l 0
theorem contains_nl (s : ByteArray) : strings_ContainsRune.f s 10 = some (decide ((10 : UInt8) ∈ s.data.toList)) := by
  unfold strings_ContainsRune.f
  rw [if_pos (by omega)]
  congr 1
  rw [Bool.eq_iff_iff, decide_eq_true_iff, decide_eq_true_iff]
  exact indexByte_mem _ _
theorem lines_loop (xs : List ByteArray) (hm : xs.length ≤ 120) : ∀ (t : List ByteArray) (j : Nat), xs.drop j = t → j ≤ xs.length →
    Ev (fun k => qz_.l0 k xs (xs.length : Int) (j : Int)) (linesFrom t (j : Int)) := by
  intro t
  induction t with
  | nil =>
    intro j h hj
    have := drop_nil h
    refine Ev.succ ?_
    simp only [qz_.l0]
    refine Ev.neg (by omega) ?_
    exact Ev.now _
  | cons s t ih =>
    intro j h hj
    obtain ⟨hl, hg, ht⟩ := drop_cons h
    have hr : rdOf ByteArray.empty xs (j : Int) = s := by simp only [rdOf, Int.toNat_natCast]; exact hg _
    refine Ev.succ ?_
    simp only [qz_.l0]
    refine Ev.pos (by omega) (Ev.pos (by omega) (Ev.pos (by omega) ?_))
    simp only [hr]
    unfold linesFrom lineC
    by_cases h1 : s.size > 80
    · refine Ev.pos (show ((s.size : Nat) : Int) > 80 by omega) ?_
      simp only [if_pos h1]
      exact Ev.now _
    · refine Ev.neg (show ¬ ((s.size : Nat) : Int) > 80 by omega) ?_
      simp only [if_neg h1, contains_nl, Option.bind_some]
      by_cases h2 : (10 : UInt8) ∈ s.data.toList
      · simp only [h2, decide_true, if_true]
        exact Ev.now _
      · simp only [h2, decide_false, Bool.false_eq_true, if_false, if_true]
        rw [wsucc (by omega)]
        have := ih (j + 1) ht (by omega)
        simpa using this
theorem lines_Validate_ev (xs : List ByteArray) : Ev (fun k => qz_.f k xs) (linesV xs) := by
  unfold qz_.f linesV
  by_cases h : xs.length > 120
  · rw [if_pos h]
    exact Ev.pos (by omega) (Ev.now _)
  · rw [if_neg h]
    exact Ev.neg (by omega) (lines_loop xs (by omega) xs 0 rfl (by omega))
theorem lines_Code_ev (xs : List ByteArray) : Ev (fun k => lines_Code.f k xs) (linesV xs).1 := by
  unfold lines_Code.f
  exact Ev.bind (lines_Validate_ev xs) (Ev.now _)
theorem linesV_len {xs : List ByteArray} (h : (linesV xs).1 = 0) : xs.length ≤ 120 := by
  unfold linesV at h
  by_cases hl : xs.length > 120
  · rw [if_pos hl] at h
    simp at h
  · omega

abbrev Hk := S52
def hunkC (h : Hk) (low : Int) : Int :=
  if h.f0 < 0 ∨ h.f0 > 120 then 3 else if (linesV h.f1).1 ≠ 0 then (linesV h.f1).1 else if (linesV h.f2).1 ≠ 0 then (linesV h.f2).1
  else if (h.f1.length = 0 ∧ h.f2.length = 0) ∨ h.f0 < low then 5 else if h.f0 + h.f1.length > 120 then 3 else 0
def patchFrom : List Hk → Int → Int → Int × Int
  | [], _, _ => (0, 0)
  | h :: t, low, j => if hunkC h low = 0 then patchFrom t (h.f0 + h.f1.length + 1) (j + 1) else (hunkC h low, j)
def patchV (hs : List Hk) : Int × Int := if hs.length > 130 then (2, -1) else patchFrom hs 0 0
theorem End_eq (h : Hk) (h0 : 0 ≤ h.f0) (h1 : h.f0 ≤ 120) (h2 : h.f1.length ≤ 120) : textpatch_End.f h.f0 h.f1 h.f2 = some (h.f0 + h.f1.length) := by
  unfold textpatch_End.f
  rw [w64 (by omega) (by omega)]
theorem hunk_j1 (h : Hk) (b : Bool) (h0 : 0 ≤ h.f0) (h1 : h.f0 ≤ 120) (h2 : h.f1.length ≤ 120) :
    Ev (fun k => qx_.j1 k b h.f0 h.f1 h.f2) (if b = true then 5 else if h.f0 + h.f1.length > 120 then 3 else 0) := by
  refine Ev.succ ?_
  simp only [qx_.j1]
  by_cases hb : b = true
  · simp only [if_pos hb]
    exact Ev.now _
  · simp only [if_neg hb, End_eq h h0 h1 h2, Option.bind_some]
    by_cases h3 : h.f0 + h.f1.length > 120
    · simp only [if_pos h3]
      exact Ev.now _
    · simp only [if_neg h3]
      exact Ev.now _
theorem hunk_j0 (h : Hk) (low : Int) (b : Bool) (hb : b = decide (h.f0 < 0 ∨ h.f0 > 120)) : Ev (fun k => qx_.j0 k low b h.f0 h.f1 h.f2) (hunkC h low) := by
  refine Ev.succ ?_
  simp only [qx_.j0]
  unfold hunkC
  by_cases h0 : h.f0 < 0 ∨ h.f0 > 120
  · simp only [hb, h0, decide_true, if_true]
    exact Ev.now _
  · simp only [hb, h0, decide_false, Bool.false_eq_true, if_false]
    refine Ev.bind (lines_Code_ev h.f1) ?_
    by_cases h1 : (linesV h.f1).1 = 0
    · have hl1 := linesV_len h1
      simp only [h1, if_true, ne_eq, not_true_eq_false, if_false]
      refine Ev.bind (lines_Code_ev h.f2) ?_
      by_cases h2 : (linesV h.f2).1 = 0
      · simp only [h2, if_true, ne_eq, not_true_eq_false, if_false]
        by_cases a : h.f1.length = 0
        · refine Ev.pos (show ((h.f1.length : Nat) : Int) = 0 by omega) ?_
          by_cases b : h.f2.length = 0
          · refine Ev.pos (show ((h.f2.length : Nat) : Int) = 0 by omega) ?_
            have := hunk_j1 h true (by omega) (by omega) hl1
            simpa only [a, b, and_self, true_or, if_true] using this
          · refine Ev.neg (show ¬ ((h.f2.length : Nat) : Int) = 0 by omega) ?_
            have := hunk_j1 h (decide (h.f0 < low)) (by omega) (by omega) hl1
            simpa only [decide_eq_true_eq, b, and_false, false_or] using this
        · refine Ev.neg (show ¬ ((h.f1.length : Nat) : Int) = 0 by omega) ?_
          have := hunk_j1 h (decide (h.f0 < low)) (by omega) (by omega) hl1
          simpa only [decide_eq_true_eq, a, false_and, false_or] using this
      · simp only [h2, if_false, ne_eq, not_false_eq_true, if_true]
        exact Ev.bind (lines_Code_ev h.f2) (Ev.now _)
    · simp only [h1, if_false, ne_eq, not_false_eq_true, if_true]
      exact Ev.bind (lines_Code_ev h.f1) (Ev.now _)
theorem hunkCode_ev (h : Hk) (low : Int) : Ev (fun k => qx_.f k h.f0 h.f1 h.f2 low) (hunkC h low) := by
  unfold qx_.f
  by_cases h0 : h.f0 < 0
  · simp only [if_pos h0]
    exact hunk_j0 h low true (by simp [h0])
  · simp only [if_neg h0]
    exact hunk_j0 h low _ (by simp [h0])
theorem hunkC_ok {h : Hk} {low : Int} (hc : hunkC h low = 0) : 0 ≤ h.f0 ∧ h.f0 ≤ 120 ∧ (linesV h.f1).1 = 0 ∧ (linesV h.f2).1 = 0 ∧ ¬ (h.f1.length = 0 ∧ h.f2.length = 0) ∧ low ≤ h.f0 ∧ h.f0 + h.f1.length ≤ 120 := by
  unfold hunkC at hc
  by_cases h0 : h.f0 < 0 ∨ h.f0 > 120
  · rw [if_pos h0] at hc; simp at hc
  rw [if_neg h0] at hc
  by_cases h1 : (linesV h.f1).1 ≠ 0
  · rw [if_pos h1] at hc; exact absurd hc h1
  rw [if_neg h1] at hc
  by_cases h2 : (linesV h.f2).1 ≠ 0
  · rw [if_pos h2] at hc; exact absurd hc h2
  rw [if_neg h2] at hc
  by_cases h3 : (h.f1.length = 0 ∧ h.f2.length = 0) ∨ h.f0 < low
  · rw [if_pos h3] at hc; simp at hc
  rw [if_neg h3] at hc
  by_cases h4 : h.f0 + h.f1.length > 120
  · rw [if_pos h4] at hc; simp at hc
  have h1' : (linesV h.f1).1 = 0 := Decidable.not_not.1 h1
  have h2' : (linesV h.f2).1 = 0 := Decidable.not_not.1 h2
  exact ⟨by omega, by omega, h1', h2', fun e => h3 (.inl e), by omega, by omega⟩
theorem rd_hunk {xs : List Hk} {j : Nat} {h : Hk} (hg : ∀ d, xs.getD j d = h) : rd_T52 xs (j : Int) = h := by
  unfold rd_T52
  rw [Int.toNat_natCast]
  exact hg _
theorem patch_loop (xs : List Hk) (hm : xs.length ≤ 130) : ∀ (t : List Hk) (j : Nat) (low : Int), xs.drop j = t → j ≤ xs.length →
    Ev (fun k => qw_.l0 k low xs (xs.length : Int) (j : Int)) (patchFrom t low (j : Int)) := by
  intro t
  induction t with
  | nil =>
    intro j low h hj
    have := drop_nil h
    refine Ev.succ ?_
    simp only [qw_.l0]
    refine Ev.neg (by omega) ?_
    exact Ev.now _
  | cons s t ih =>
    intro j low h hj
    obtain ⟨hl, hg, ht⟩ := drop_cons h
    have hr := rd_hunk hg
    refine Ev.succ ?_
    simp only [qw_.l0]
    refine Ev.pos (by omega) (Ev.pos (by omega) (Ev.pos (by omega) ?_))
    simp only [hr]
    refine Ev.bind (hunkCode_ev s low) ?_
    unfold patchFrom
    by_cases h1 : hunkC s low = 0
    · obtain ⟨a, b, c, _, _, _, d⟩ := hunkC_ok h1
      simp only [if_pos h1, End_eq s a b (linesV_len c), Option.bind_some]
      rw [w64 (by omega) (by omega), wsucc (by omega)]
      have := ih (j + 1) (s.f0 + s.f1.length + 1) ht (by omega)
      simpa using this
    · simp only [if_neg h1]
      exact Ev.now _
theorem patch_Validate_ev (hs : List Hk) : Ev (fun k => qw_.f k hs) (patchV hs) := by
  unfold qw_.f patchV
  by_cases h : hs.length > 130
  · rw [if_pos h]
    exact Ev.pos (by omega) (Ev.now _)
  · rw [if_neg h]
    exact Ev.neg (by omega) (patch_loop hs (by omega) hs 0 0 rfl (by omega))
/-- A valid list of hunks, the first one at 'low' or later. -/
def Valid : Int → List Hk → Prop
  | _, [] => True
  | low, h :: t => 0 ≤ h.f0 ∧ h.f0 ≤ 120 ∧ (linesV h.f1).1 = 0 ∧ (linesV h.f2).1 = 0 ∧ ¬ (h.f1.length = 0 ∧ h.f2.length = 0) ∧ low ≤ h.f0 ∧ h.f0 + h.f1.length ≤ 120 ∧ Valid (h.f0 + h.f1.length + 1) t
theorem hunkC_zero {h : Hk} {low : Int} (hv : 0 ≤ h.f0 ∧ h.f0 ≤ 120 ∧ (linesV h.f1).1 = 0 ∧ (linesV h.f2).1 = 0 ∧ ¬ (h.f1.length = 0 ∧ h.f2.length = 0) ∧ low ≤ h.f0 ∧ h.f0 + h.f1.length ≤ 120) : hunkC h low = 0 := by
  obtain ⟨a, b, c, d, e, f, g⟩ := hv
  unfold hunkC
  rw [if_neg (by omega), if_neg (by simp [c]), if_neg (by simp [d]), if_neg (by omega), if_neg (by omega)]
theorem patchFrom_valid : ∀ (t : List Hk) (low j : Int), (patchFrom t low j).1 = 0 ↔ Valid low t
  | [], low, j => by simp [patchFrom, Valid]
  | h :: t, low, j => by
    unfold patchFrom Valid
    by_cases hc : hunkC h low = 0
    · rw [if_pos hc, patchFrom_valid t _ _]
      obtain ⟨a, b, c, d, e, f, g⟩ := hunkC_ok hc
      exact ⟨fun hv => ⟨a, b, c, d, e, f, g, hv⟩, fun hv => hv.2.2.2.2.2.2.2⟩
    · rw [if_neg hc]
      exact ⟨fun e => absurd e hc, fun ⟨a, b, c, d, e, f, g, _⟩ => absurd (hunkC_zero ⟨a, b, c, d, e, f, g⟩) hc⟩
theorem patchFrom_zero : ∀ (t : List Hk) (low j : Int), (patchFrom t low j).1 = 0 → patchFrom t low j = (0, 0)
  | [], low, j => fun _ => by simp [patchFrom]
  | h :: t, low, j => by
    unfold patchFrom
    by_cases hc : hunkC h low = 0
    · rw [if_pos hc]
      exact patchFrom_zero t _ _
    · rw [if_neg hc]
      exact fun e => absurd e hc
theorem patchV_zero {hs : List Hk} (h : (patchV hs).1 = 0) : patchV hs = (0, 0) ∧ hs.length ≤ 130 ∧ Valid 0 hs := by
  unfold patchV at h ⊢
  by_cases hl : hs.length > 130
  · rw [if_pos hl] at h
    simp at h
  · rw [if_neg hl] at h ⊢
    exact ⟨patchFrom_zero _ _ _ h, by omega, (patchFrom_valid _ _ _).1 h⟩
theorem isZero_iff (p : Int × Int) : ((p.1 == 0 && (p.2 == 0)) = true) ↔ p = (0, 0) := by
  obtain ⟨a, b⟩ := p
  simp
/-- A fault is none just where its code is 0. -/
theorem patchV_test (hs : List Hk) : (((patchV hs).1 == 0 && ((patchV hs).2 == 0)) = true) ↔ (patchV hs).1 = 0 := by
  rw [isZero_iff]
  exact ⟨fun h => by rw [h], fun h => (patchV_zero h).1⟩
end Go.Proofs.Ytjpdcnaealdbjaa.Pu
/- What the functions of anchor compute, in plain words: by the template tmpl/PurePlace.lean of this repo. -/
namespace Go.Proofs.Ytjpdcnaealdbjaa.Pu
open Go.RowKit Go.Proofs.YtjpdcnaealdbjaaW.PrintWords Go.Proofs.YtjpdcnaealdbjaaW.PrintLast Go.Proofs.Ytjpdcnaealdbjaa.PTh
set_option linter.unusedVariables false
set_option linter.unusedSimpArgs false

/-- Where a line comes to, what was in front having moved by 'shift'. -/
def place : List Hk → Int → Int → Int × Bool
  | [], line, shift => (line + shift, true)
  | h :: t, line, shift => if line < h.f0 then (line + shift, true) else if line < h.f0 + h.f1.length then (h.f0 + shift, false) else place t line (shift + (h.f2.length - h.f1.length))
theorem place_loop (xs : List Hk) (hm : xs.length ≤ 130) (line : Int) (l0 : -1000000000 ≤ line) (l1 : line ≤ 1000000000) : ∀ (t : List Hk) (j : Nat) (shift low : Int), xs.drop j = t → j ≤ xs.length → Valid low t →
    -(1000 * (j : Int)) ≤ shift → shift ≤ 1000 * (j : Int) →
    Ev (fun k => anchor_Place.l0 k line shift xs (xs.length : Int) (j : Int)) (place t line shift) := by
  intro t
  induction t with
  | nil =>
    intro j shift low h hj _ s0 s1
    have := drop_nil h
    refine Ev.succ ?_
    simp only [anchor_Place.l0]
    refine Ev.neg (by omega) ?_
    rw [w64 (by omega) (by omega)]
    exact Ev.now _
  | cons s t ih =>
    intro j shift low h hj hv s0 s1
    obtain ⟨hl, hg, ht⟩ := drop_cons h
    have hr := rd_hunk hg
    obtain ⟨a, b, c, d, _, _, e, hv'⟩ := hv
    have c' := linesV_len c
    have d' := linesV_len d
    refine Ev.succ ?_
    simp only [anchor_Place.l0]
    refine Ev.pos (by omega) (Ev.pos (by omega) (Ev.pos (by omega) ?_))
    simp only [hr]
    unfold place
    by_cases h1 : line < s.f0
    · rw [if_pos h1]
      refine Ev.pos h1 ?_
      rw [w64 (by omega) (by omega)]
      exact Ev.now _
    · rw [if_neg h1]
      refine Ev.neg h1 ?_
      simp only [End_eq s a b c', Option.bind_some]
      by_cases h2 : line < s.f0 + s.f1.length
      · rw [if_pos h2]
        refine Ev.pos h2 ?_
        rw [w64 (by omega) (by omega)]
        exact Ev.now _
      · rw [if_neg h2]
        refine Ev.neg h2 ?_
        have e1 : wrap64 ((s.f2.length : Int) - (s.f1.length : Int)) = (s.f2.length : Int) - (s.f1.length : Int) := w64 (by omega) (by omega)
        rw [e1, w64 (x := shift + _) (by omega) (by omega), wsucc (by omega)]
        exact ih (j + 1) _ _ ht (by omega) hv' (by omega) (by omega)
theorem Place_ev {hs : List Hk} (hm : hs.length ≤ 130) (hv : Valid 0 hs) (line : Int) (l0 : -1000000000 ≤ line) (l1 : line ≤ 1000000000) : Ev (fun k => anchor_Place.f k hs line) (place hs line 0) := by
  unfold anchor_Place.f
  exact place_loop hs hm line l0 l1 hs 0 0 0 rfl (by omega) hv (by omega) (by omega)
theorem Valid_mono {t : List Hk} {a b : Int} (hab : a ≤ b) (h : Valid b t) : Valid a t := by
  cases t with
  | nil => trivial
  | cons h t => obtain ⟨a1, a2, a3, a4, a5, a6, a7, a8⟩ := h; exact ⟨a1, a2, a3, a4, a5, by omega, a7, a8⟩
end Go.Proofs.Ytjpdcnaealdbjaa.Pu
/- Applying a patch, in plain words: by the template tmpl/PureApply.lean of this repo. -/
namespace Go.Proofs.Ytjpdcnaealdbjaa.Pu
open Go.RowKit Go.Proofs.YtjpdcnaealdbjaaW.PrintWords Go.Proofs.YtjpdcnaealdbjaaW.PrintLast Go.Proofs.Ytjpdcnaealdbjaa.PTh
set_option linter.unusedVariables false
set_option linter.unusedSimpArgs false

theorem rdS {xs : List ByteArray} {j : Nat} {a : ByteArray} (hg : ∀ d, xs.getD j d = a) : rdOf ByteArray.empty xs (j : Int) = a := by
  simp only [rdOf, Int.toNat_natCast]
  exact hg _
theorem equal_loop (a b : List ByteArray) (hl : a.length = b.length) (hm : a.length < 9223372036854775807) : ∀ (t : List ByteArray) (j : Nat), a.drop j = t → j ≤ a.length → a.take j = b.take j →
    Ev (fun k => q0_.l0 k a b (a.length : Int) (j : Int)) (decide (a = b)) := by
  intro t
  induction t with
  | nil =>
    intro j h hj he
    have := drop_nil h
    refine Ev.succ ?_
    simp only [q0_.l0]
    refine Ev.neg (by omega) ?_
    rw [List.take_of_length_le (by omega), List.take_of_length_le (by omega)] at he
    simp only [he, decide_true]
    exact Ev.now _
  | cons s t ih =>
    intro j h hj he
    obtain ⟨hlt, hg, ht⟩ := drop_cons h
    refine Ev.succ ?_
    simp only [q0_.l0]
    refine Ev.pos (by omega) (Ev.pos (by omega) (Ev.pos (by omega) (Ev.pos (by omega) ?_)))
    have hlb : j < b.length := by omega
    have ra := rdS hg
    have rb : rdOf ByteArray.empty b (j : Int) = b[j] := rdS (fun d => by simp [List.getD, List.getElem?_eq_getElem hlb])
    have ga : a[j] = s := by have := hg s; simpa [List.getD, List.getElem?_eq_getElem hlt] using this
    rw [ra, rb]
    by_cases hs : s.toList = b[j].toList
    · refine Ev.pos hs ?_
      rw [wsucc (by omega)]
      refine ih (j + 1) ht (by omega) ?_
      rw [List.take_succ_eq_append_getElem hlt, List.take_succ_eq_append_getElem hlb, he, ga, ba_eq.1 hs]
    · refine Ev.neg hs ?_
      have hne : ¬ a = b := by
        intro e
        subst e
        exact hs (by rw [ga])
      simp only [hne, decide_false]
      exact Ev.now _
theorem Equal_ev (a b : List ByteArray) (hm : a.length < 9223372036854775807) : Ev (fun k => q0_.f k a b) (decide (a = b)) := by
  unfold q0_.f
  by_cases h : a.length = b.length
  · refine Ev.pos (by omega) ?_
    exact equal_loop a b h hm a 0 rfl (by omega) rfl
  · refine Ev.neg (by omega) ?_
    have hne : ¬ a = b := fun e => h (by rw [e])
    simp only [hne, decide_false]
    exact Ev.now _
/-- The text behind the hunks, from line 'at' on; 'j': the number of the next hunk. -/
def applyFrom (text : List ByteArray) : List Hk → Nat → List ByteArray → Int → List ByteArray × Int × Int
  | [], p, acc, _ => if (acc ++ text.drop p).length > 120 then ([], 10, -1) else (acc ++ text.drop p, 0, 0)
  | h :: t, p, acc, j => if h.f0 + h.f1.length ≤ text.length ∧ (text.take (h.f0.toNat + h.f1.length)).drop h.f0.toNat = h.f1 then
      applyFrom text t (h.f0.toNat + h.f1.length) (acc ++ (text.take h.f0.toNat).drop p ++ h.f2) (j + 1) else ([], 19, j)
def applyV (hs : List Hk) (text : List ByteArray) : List ByteArray × Int × Int :=
  if (patchV hs).1 = 0 then (if (linesV text).1 = 0 then applyFrom text hs 0 [] 0 else ([], (linesV text).1, -2)) else ([], (patchV hs).1, (patchV hs).2)
theorem apply_loop (text : List ByteArray) (hx : text.length ≤ 120) (xs : List Hk) (hm : xs.length ≤ 130) : ∀ (t : List Hk) (j p : Nat) (acc : List ByteArray), xs.drop j = t → j ≤ xs.length → Valid (p : Int) t →
    p ≤ text.length + 1 → (t = [] → p ≤ text.length) → p ≤ text.length → acc.length ≤ 300 * j →
    Ev (fun k => qy_.l0 k text acc (p : Int) xs (xs.length : Int) (j : Int)) (applyFrom text t p acc (j : Int)) := by
  intro t
  induction t with
  | nil =>
    intro j p acc h hj _ _ _ hp ha
    have := drop_nil h
    refine Ev.succ ?_
    simp only [qy_.l0]
    have hl : (text.drop p).length ≤ 120 := by rw [List.length_drop]; omega
    refine Ev.neg (by omega) (Ev.pos (by omega) (Ev.pos (by omega) ?_))
    simp only [Int.toNat_natCast, Option.bind_some]
    refine Ev.pos (by omega) ?_
    unfold applyFrom
    by_cases h1 : (acc ++ text.drop p).length > 120
    · rw [if_pos h1]
      exact Ev.pos (by omega) (Ev.now _)
    · rw [if_neg h1]
      exact Ev.neg (by omega) (Ev.now _)
  | cons s t ih =>
    intro j p acc h hj hv _ _ hp ha
    obtain ⟨hl, hg, ht⟩ := drop_cons h
    have hr := rd_hunk hg
    obtain ⟨a, b, c, d, _, f, e, hv'⟩ := hv
    have c' := linesV_len c
    have d' := linesV_len d
    have hE := End_eq s a b c'
    refine Ev.succ ?_
    simp only [qy_.l0]
    refine Ev.pos (by omega) (Ev.pos (by omega) (Ev.pos (by omega) ?_))
    simp only [hr, hE, Option.bind_some]
    unfold applyFrom
    by_cases h1 : s.f0 + s.f1.length ≤ text.length
    · refine Ev.neg (by omega) (Ev.pos a (Ev.pos (by omega) (Ev.pos (by omega) ?_)))
      have e1 : (s.f0 + (s.f1.length : Int)).toNat = s.f0.toNat + s.f1.length := by omega
      rw [e1]
      refine Ev.bind (Equal_ev _ _ (by rw [List.length_drop, List.length_take]; omega)) ?_
      by_cases h2 : (text.take (s.f0.toNat + s.f1.length)).drop s.f0.toNat = s.f1
      · simp only [h2, decide_true, if_true, and_true]
        rw [if_pos h1]
        have hl1 : ((text.take s.f0.toNat).drop p).length ≤ 120 := by rw [List.length_drop, List.length_take]; omega
        refine Ev.pos (by omega) (Ev.pos (by omega) (Ev.pos (by omega) ?_))
        simp only [Int.toNat_natCast]
        refine Ev.pos (by omega) (Ev.pos (by rw [List.length_append]; omega) ?_)
        rw [wsucc (by omega), show s.f0 + (s.f1.length : Int) = ((s.f0.toNat + s.f1.length : Nat) : Int) by omega]
        have := ih (j + 1) (s.f0.toNat + s.f1.length) (acc ++ (text.take s.f0.toNat).drop p ++ s.f2) ht (by omega) (by
            have hv2 := hv'
            cases t with
            | nil => trivial
            | cons q t => obtain ⟨z1, z2, z3, z4, z5, z6, z7, z8⟩ := hv2; exact ⟨z1, z2, z3, z4, z5, by omega, z7, z8⟩) (by omega) (fun _ => by omega) (by omega) (by simp only [List.length_append]; omega)
        simpa using this
      · simp only [h2, decide_false, Bool.false_eq_true, if_false, and_false]
        exact Ev.now _
    · rw [if_neg (fun z => h1 z.1)]
      exact Ev.pos (by omega) (Ev.now _)
theorem Apply_ev (hs : List Hk) (text : List ByteArray) : Ev (fun k => qy_.f k hs text) (applyV hs text) := by
  unfold qy_.f applyV
  refine Ev.bind (patch_Validate_ev hs) ?_
  by_cases hz : (patchV hs).1 = 0
  · rw [if_pos hz]
    obtain ⟨_, hm, hv⟩ := patchV_zero hz
    refine Ev.pos ((patchV_test hs).2 hz) ?_
    refine Ev.bind (lines_Code_ev text) ?_
    by_cases h1 : (linesV text).1 = 0
    · simp only [h1, if_true]
      exact apply_loop text (linesV_len h1) hs hm hs 0 0 [] rfl (by omega) hv (by omega) (fun _ => by omega) (by omega) (by simp)
    · simp only [h1, if_false]
      exact Ev.now _
  · rw [if_neg hz]
    exact Ev.neg (fun e => hz ((patchV_test hs).1 e)) (Ev.now _)
/-- What the new text is, from line p of the old one on. -/
def outF (text : List ByteArray) : List Hk → Nat → List ByteArray
  | [], p => text.drop p
  | h :: t, p => (text.take h.f0.toNat).drop p ++ h.f2 ++ outF text t (h.f0.toNat + h.f1.length)
theorem applyFrom_out (text : List ByteArray) : ∀ (t : List Hk) (p : Nat) (acc : List ByteArray) (j : Int), (applyFrom text t p acc j).2.1 = 0 →
    applyFrom text t p acc j = (acc ++ outF text t p, 0, 0) ∧ (acc ++ outF text t p).length ≤ 120 ∧ (∀ h ∈ t, h.f0 + h.f1.length ≤ text.length)
  | [], p, acc, j, hz => by
    unfold applyFrom at hz ⊢
    by_cases h1 : (acc ++ text.drop p).length > 120
    · rw [if_pos h1] at hz; simp at hz
    · rw [if_neg h1]
      exact ⟨rfl, by unfold outF; omega, by simp⟩
  | h :: t, p, acc, j, hz => by
    unfold applyFrom at hz ⊢
    by_cases h1 : h.f0 + h.f1.length ≤ text.length ∧ (text.take (h.f0.toNat + h.f1.length)).drop h.f0.toNat = h.f1
    · rw [if_pos h1] at hz ⊢
      obtain ⟨e, hl, ha⟩ := applyFrom_out text t _ _ _ hz
      unfold outF
      refine ⟨by rw [e]; simp, by simpa using hl, fun q hq => ?_⟩
      rcases List.mem_cons.1 hq with rfl | hq
      · exact h1.1
      · exact ha q hq
    · rw [if_neg h1] at hz
      simp at hz
theorem applyV_ok {hs : List Hk} {text : List ByteArray} (h : (applyV hs text).2.1 = 0) : (patchV hs).1 = 0 ∧ (linesV text).1 = 0 ∧ applyV hs text = (outF text hs 0, 0, 0) ∧ (outF text hs 0).length ≤ 120 ∧ (∀ q ∈ hs, q.f0 + q.f1.length ≤ text.length) := by
  unfold applyV at h ⊢
  by_cases h1 : (patchV hs).1 = 0
  · rw [if_pos h1] at h ⊢
    by_cases h2 : (linesV text).1 = 0
    · rw [if_pos h2] at h ⊢
      obtain ⟨e, hl, ha⟩ := applyFrom_out text hs 0 [] 0 h
      exact ⟨h1, h2, by simpa using e, by simpa using hl, ha⟩
    · rw [if_neg h2] at h
      exact absurd h h2
  · rw [if_neg h1] at h
    exact absurd h h1
end Go.Proofs.Ytjpdcnaealdbjaa.Pu
/- Kept, and what a kept line's contents are, in plain words: by the template tmpl/PurePlaceText.lean of this repo. -/
namespace Go.Proofs.Ytjpdcnaealdbjaa.Pu
open Go.RowKit Go.Proofs.YtjpdcnaealdbjaaW.PrintWords Go.Proofs.YtjpdcnaealdbjaaW.PrintLast Go.Proofs.Ytjpdcnaealdbjaa.PTh
set_option linter.unusedVariables false
set_option linter.unusedSimpArgs false

/-- A kept line has the same contents at its new place. -/
theorem place_text (text : List ByteArray) : ∀ (t : List Hk) (p i : Nat) (shift : Int), Valid (p : Int) t → (∀ h ∈ t, h.f0 + h.f1.length ≤ text.length) → p ≤ i → i < text.length → (place t (i : Int) shift).2 = true →
    ∃ q : Nat, (place t (i : Int) shift).1 = q + shift + p ∧ (outF text t p)[q]? = text[i]?
  | [], p, i, shift, _, _, hp, hi, _ => ⟨i - p, by simp only [place]; omega, by simp only [outF, List.getElem?_drop]; congr 1; omega⟩
  | h :: t, p, i, shift, hv, ha, hp, hi, hk => by
    obtain ⟨a, _, _, _, _, f, _, hv'⟩ := hv
    have hh := ha h (by simp)
    unfold place at hk ⊢
    unfold outF
    have hl1 : ((text.take h.f0.toNat).drop p).length = h.f0.toNat - p := by rw [List.length_drop, List.length_take]; omega
    by_cases c1 : (i : Int) < h.f0
    · rw [if_pos c1]
      refine ⟨i - p, by show (i : Int) + shift = _; omega, ?_⟩
      rw [List.append_assoc, List.getElem?_append_left (by omega), List.getElem?_drop, List.getElem?_take_of_lt (by omega)]
      congr 1
      omega
    · rw [if_neg c1] at hk ⊢
      by_cases c2 : (i : Int) < h.f0 + h.f1.length
      · rw [if_pos c2] at hk; simp at hk
      · rw [if_neg c2] at hk ⊢
        obtain ⟨q, hq, ht⟩ := place_text text t (h.f0.toNat + h.f1.length) i (shift + (h.f2.length - h.f1.length)) (Valid_mono (by omega) hv') (fun g hg => ha g (by simp [hg])) (by omega) hi hk
        refine ⟨(h.f0.toNat - p) + h.f2.length + q, by rw [hq]; omega, ?_⟩
        rw [List.getElem?_append_right (by rw [List.length_append]; omega)]
        rw [← ht]
        congr 1
        rw [List.length_append]
        omega
end Go.Proofs.Ytjpdcnaealdbjaa.Pu
/- What the review of threads computes, in plain words: by the template tmpl/PureThreads.lean of this repo. -/
namespace Go.Proofs.Ytjpdcnaealdbjaa.Pu
open Go.RowKit Go.Proofs.YtjpdcnaealdbjaaW.PrintWords Go.Proofs.YtjpdcnaealdbjaaW.PrintLast Go.Proofs.Ytjpdcnaealdbjaa.PTh
set_option linter.unusedVariables false
set_option linter.unusedSimpArgs false

def codeV (s : ByteArray) : Int := if s.toList = ([] : List UInt8) then 5 else (linesV [s]).1
theorem textCode_ev (s : ByteArray) : Ev (fun k => threads_textCode.f k s) (codeV s) := by
  unfold threads_textCode.f codeV
  by_cases h : s.toList = ([] : List UInt8)
  · rw [if_pos h]
    exact Ev.pos h (Ev.now _)
  · rw [if_neg h]
    exact Ev.neg h (Ev.bind (lines_Code_ev [s]) (Ev.now _))
def unusedV (e : S43) : Bool := (threads_unused.f e.f0 e.f1 e.f2 e.f3 e.f4 e.f5.f0).getD true
theorem unused_eq (e : S43) : threads_unused.f e.f0 e.f1 e.f2 e.f3 e.f4 e.f5.f0 = some (unusedV e) := by
  unfold unusedV threads_unused.f
  repeat' first
    | rfl
    | split
/-- The review's invariant. -/
def Fit (text : List ByteArray) (ths : List S34) : Prop := text.length ≤ 120 ∧ ∀ t ∈ ths, t.f3 = false → 0 ≤ t.f1 ∧ t.f1 < text.length
def mv (p : List S52) (t : S34) : S34 := if t.f3 = true then t else (if (place p t.f1 0).2 = true then ⟨t.f0, (place p t.f1 0).1, t.f2, t.f3, t.f4⟩ else ⟨t.f0, t.f1, t.f2, true, t.f4⟩)
theorem move_ev {p : List S52} (hm : p.length ≤ 130) (hv : Valid 0 p) : ∀ (ths : List S34), (∀ t ∈ ths, t.f3 = false → 0 ≤ t.f1 ∧ t.f1 ≤ 120) → Ev (fun k => rvMove k p ths) (ths.map (mv p))
  | [], _ => Ev.now _
  | t :: ts, ha => by
    have ih := move_ev hm hv ts (fun q hq => ha q (List.mem_cons_of_mem _ hq))
    simp only [rvMove, List.map_cons]
    by_cases h : t.f3 = true
    · refine Ev.pos h (Ev.bind ih ?_)
      have e : mv p t = t := by unfold mv; rw [if_pos h]
      rw [e]
      exact Ev.now _
    · have hb := ha t (List.mem_cons_self) (by simpa using h)
      refine Ev.neg h (Ev.bind (Place_ev hm hv t.f1 (by omega) (by omega)) (Ev.bind ih ?_))
      have e : mv p t = (if (place p t.f1 0).2 = true then (⟨t.f0, (place p t.f1 0).1, t.f2, t.f3, t.f4⟩ : S34) else ⟨t.f0, t.f1, t.f2, true, t.f4⟩) := by unfold mv; rw [if_neg h]
      rw [e]
      exact Ev.now _
def openV (text : List ByteArray) (ths : List S34) (us ln : Int) (tx : ByteArray) : List S34 × Int :=
  if codeV tx = 0 then (if ln < 0 then (ths, 3) else (if (text.length : Int) ≤ ln then (ths, 3) else (if (12 : Int) ≤ (ths.length : Int) then (ths, 14) else (ths ++ [⟨us, ln, 1, false, false⟩], 0)))) else (ths, codeV tx)
theorem open_ev (text : List ByteArray) (ths : List S34) (us ln : Int) (tx : ByteArray) : Ev (fun k => rvOpen k text ths us ln tx) (openV text ths us ln tx) := by
  unfold rvOpen openV
  refine Ev.bind (textCode_ev tx) ?_
  repeat' first
    | exact Ev.now _
    | (split)
def patchS (text : List ByteArray) (ths : List S34) (p : List S52) : List ByteArray × List S34 × Int :=
  if (applyV p text).2.1 = 0 then (outF text p 0, ths.map (mv p), 0) else (text, ths, (applyV p text).2.1)
theorem patch_ev {text : List ByteArray} {ths : List S34} (p : List S52) (hf : Fit text ths) : Ev (fun k => rvPatch k text ths p) (patchS text ths p) := by
  unfold rvPatch patchS
  refine Ev.bind (Apply_ev p text) ?_
  by_cases h : (applyV p text).2.1 = 0
  · obtain ⟨h1, _, h3, h4, h5⟩ := applyV_ok h
    obtain ⟨_, hm, hv⟩ := patchV_zero h1
    rw [if_pos h]
    rw [h3]
    refine Ev.pos (by rfl) ?_
    exact Ev.bind (move_ev hm hv ths (fun t ht h0 => by have := hf.2 t ht h0; have := hf.1; omega)) (Ev.now _)
  · rw [if_neg h]
    refine Ev.neg (fun e => h ?_) (Ev.now _)
    simp at e
    exact e.1
def stepV (text : List ByteArray) (ths : List S34) (e : S43) : List ByteArray × List S34 × Int :=
  if e.f0 < 1 then (text, ths, 4) else (if 4 < e.f0 then (text, ths, 4) else (if unusedV e = true then (text, ths, 5) else (if e.f1 < 0 then (text, ths, 3) else (if 7 < e.f1 then (text, ths, 3) else
    (if e.f0 = 1 then (text, (openV text ths e.f1 e.f3 e.f4).1, (openV text ths e.f1 e.f3 e.f4).2) else (if e.f0 = 4 then patchS text ths e.f5.f0 else
      (if e.f0 = 2 then (if codeV e.f4 = 0 then rvTouch text ths e.f0 e.f1 e.f2 else (text, ths, codeV e.f4)) else rvTouch text ths e.f0 e.f1 e.f2)))))))
theorem step_ev {text : List ByteArray} {ths : List S34} (e : S43) (hf : Fit text ths) : Ev (fun k => rvStep k text ths e.f0 e.f1 e.f2 e.f3 e.f4 e.f5.f0) (stepV text ths e) := by
  unfold rvStep stepV
  simp only [unused_eq, Option.bind_some]
  refine Ev.ite' (fun _ => Ev.now _) (fun _ => Ev.ite' (fun _ => Ev.now _) (fun _ => Ev.ite' (fun _ => Ev.now _) (fun _ => Ev.ite' (fun _ => Ev.now _) (fun _ => Ev.ite' (fun _ => Ev.now _) (fun _ => Ev.ite' (fun _ => ?_) (fun _ => Ev.ite' (fun _ => patch_ev _ hf) (fun _ => Ev.ite' (fun _ => ?_) (fun _ => Ev.now _))))))))
  · exact Ev.bind (open_ev _ _ _ _ _) (Ev.now _)
  · exact Ev.bind (textCode_ev _) (Ev.ite' (fun _ => Ev.now _) (fun _ => Ev.now _))
theorem mem_set {ths : List S34} {i : Nat} {x t : S34} (h : t ∈ ths.set i x) : t ∈ ths ∨ t = x := List.mem_or_eq_of_mem_set h
theorem getD_mem {ths : List S34} {i : Nat} (h : i < ths.length) : ths.getD i z34 ∈ ths := by
  rw [List.getD_eq_getElem?_getD, List.getElem?_eq_getElem h]
  exact List.getElem_mem h
theorem touch_text (text : List ByteArray) (ths : List S34) (e0 e1 e2 : Int) : (rvTouch text ths e0 e1 e2).1 = text := by
  unfold rvTouch
  repeat' first
    | rfl
    | split
theorem fit_touch {text : List ByteArray} {ths : List S34} (e0 e1 e2 : Int) (hf : Fit text ths) : Fit text (rvTouch text ths e0 e1 e2).2.1 := by
  unfold rvTouch
  by_cases h1 : e2 < 0
  · rw [if_pos h1]; exact hf
  rw [if_neg h1]
  by_cases h2 : (ths.length : Int) ≤ e2
  · rw [if_pos h2]; exact hf
  rw [if_neg h2]
  have hm := getD_mem (ths := ths) (i := e2.toNat) (by omega)
  have key : ∀ x : S34, x.f1 = (ths.getD e2.toNat z34).f1 → x.f3 = (ths.getD e2.toNat z34).f3 → Fit text (ths.set e2.toNat x) := by
    intro x hx1 hx3
    refine ⟨hf.1, fun t ht h3 => ?_⟩
    rcases mem_set ht with h | rfl
    · exact hf.2 t h h3
    · rw [hx1]
      exact hf.2 _ hm (by rw [← hx3]; exact h3)
  repeat' first
    | exact hf
    | exact key _ rfl rfl
    | split
theorem fit_patch {text : List ByteArray} {ths : List S34} (p : List S52) (hf : Fit text ths) : Fit (patchS text ths p).1 (patchS text ths p).2.1 := by
  unfold patchS
  by_cases h : (applyV p text).2.1 = 0
  · rw [if_pos h]
    obtain ⟨h1, _, h3, h4, h5⟩ := applyV_ok h
    obtain ⟨_, hm, hv⟩ := patchV_zero h1
    refine ⟨h4, fun t ht h0 => ?_⟩
    obtain ⟨s, hs, rfl⟩ := List.mem_map.1 ht
    unfold mv at h0 ⊢
    by_cases c : s.f3 = true
    · rw [if_pos c] at h0; rw [c] at h0; cases h0
    rw [if_neg c] at h0 ⊢
    by_cases d : (place p s.f1 0).2 = true
    · rw [if_pos d]
      have hb := hf.2 s hs (by simpa using c)
      obtain ⟨i, hi⟩ : ∃ i : Nat, s.f1 = (i : Int) := ⟨s.f1.toNat, by omega⟩
      rw [hi] at d hb ⊢
      obtain ⟨q, hq, ht2⟩ := place_text text p 0 i 0 hv h5 (by omega) (by omega) d
      have hlt : q < (outF text p 0).length := by
        rcases Nat.lt_or_ge q (outF text p 0).length with hl | hl
        · exact hl
        · rw [List.getElem?_eq_none hl, List.getElem?_eq_getElem (by omega)] at ht2
          cases ht2
      show 0 ≤ (place p (i : Int) 0).1 ∧ (place p (i : Int) 0).1 < ((outF text p 0).length : Int)
      rw [hq]
      omega
    · rw [if_neg d] at h0
      cases h0
  · rw [if_neg h]; exact hf
theorem fit_open {text : List ByteArray} {ths : List S34} (us ln : Int) (tx : ByteArray) (hf : Fit text ths) : Fit text (openV text ths us ln tx).1 := by
  unfold openV
  by_cases h0 : codeV tx = 0
  · rw [if_pos h0]
    by_cases h1 : ln < 0
    · rw [if_pos h1]; exact hf
    rw [if_neg h1]
    by_cases h2 : (text.length : Int) ≤ ln
    · rw [if_pos h2]; exact hf
    rw [if_neg h2]
    by_cases h3 : (12 : Int) ≤ (ths.length : Int)
    · rw [if_pos h3]; exact hf
    rw [if_neg h3]
    refine ⟨hf.1, fun t ht h => ?_⟩
    rcases List.mem_append.1 ht with h' | h'
    · exact hf.2 t h' h
    · rw [List.mem_singleton.1 h']
      exact ⟨show (0 : Int) ≤ ln by omega, show ln < (text.length : Int) by omega⟩
  · rw [if_neg h0]; exact hf
theorem fit_step {text : List ByteArray} {ths : List S34} (e : S43) (hf : Fit text ths) : Fit (stepV text ths e).1 (stepV text ths e).2.1 := by
  unfold stepV
  repeat' first
    | exact hf
    | exact fit_patch _ hf
    | exact fit_open _ _ _ hf
    | (rw [touch_text]; exact fit_touch _ _ _ hf)
    | split
def runV : List S43 → Int → List ByteArray → List S34 → List S34 × List ByteArray × Int × Int
  | [], _, text, ths => (ths, text, 0, 0)
  | e :: es, i, text, ths => if (stepV text ths e).2.2 = 0 then runV es (i + 1) (stepV text ths e).1 (stepV text ths e).2.1 else ([], [], (stepV text ths e).2.2, i)
theorem run_loop : ∀ (es : List S43) (i : Int) (text : List ByteArray) (ths : List S34), Fit text ths → Ev (fun k => rvRun k es i text ths) (runV es i text ths)
  | [], _, _, _, _ => Ev.now _
  | e :: es, i, text, ths, hf => by
    simp only [rvRun, runV]
    exact Ev.bind (step_ev e hf) (Ev.ite' (fun _ => run_loop es _ _ _ (fit_step e hf)) (fun _ => Ev.now _))
def RunV (l0 : List ByteArray) (l1 : List S43) : List S34 × List ByteArray × Int × Int :=
  if (linesV l0).1 = 0 then (if (30 : Int) < (l1.length : Int) then ([], [], 2, -1) else runV l1 0 l0 []) else ([], [], (linesV l0).1, -2)
theorem fit_nil {l0 : List ByteArray} (h : (linesV l0).1 = 0) : Fit l0 [] := ⟨linesV_len h, fun t ht => absurd ht (by simp)⟩
theorem Run_ev (l0 : List ByteArray) (l1 : List S43) : Ev (fun k => threads_Run.f k l0 l1) (RunV l0 l1) := by
  unfold threads_Run.f RunV
  refine Ev.bind (lines_Code_ev l0) ?_
  by_cases h : (linesV l0).1 = 0
  · rw [if_pos h]
    refine Ev.pos h ?_
    refine Ev.ite' (fun _ => Ev.now _) (fun _ => ?_)
    have hl := linesV_len h
    have hc : slices_Clone_string_string.f l0 = some l0 := by unfold slices_Clone_string_string.f; rw [if_pos (by omega)]
    simp only [hc, Option.bind_some]
    exact run_loop l1 0 l0 [] (fit_nil h)
  · rw [if_neg h]
    exact Ev.neg h (Ev.now _)
theorem RunV_ok {l0 : List ByteArray} {l1 : List S43} (h : (RunV l0 l1).2.2.1 = 0) : (linesV l0).1 = 0 ∧ l1.length ≤ 30 ∧ RunV l0 l1 = runV l1 0 l0 [] := by
  unfold RunV at h ⊢
  by_cases h1 : (linesV l0).1 = 0
  · rw [if_pos h1] at h ⊢
    by_cases h2 : (30 : Int) < (l1.length : Int)
    · rw [if_pos h2] at h; cases h
    · rw [if_neg h2]
      exact ⟨h1, by omega, rfl⟩
  · rw [if_neg h1] at h
    exact absurd h h1
theorem run_fit : ∀ (es : List S43) (i : Int) (text : List ByteArray) (ths : List S34), Fit text ths → (runV es i text ths).2.2.1 = 0 → Fit (runV es i text ths).2.1 (runV es i text ths).1
  | [], _, _, _, hf, _ => hf
  | e :: es, i, text, ths, hf, h => by
    simp only [runV] at h ⊢
    by_cases c : (stepV text ths e).2.2 = 0
    · rw [if_pos c] at h ⊢
      exact run_fit es _ _ _ (fit_step e hf) h
    · rw [if_neg c] at h
      exact absurd h c
theorem len_touch {ths : List S34} (text : List ByteArray) (e0 e1 e2 : Int) (h : ths.length ≤ 12) : (rvTouch text ths e0 e1 e2).2.1.length ≤ 12 := by
  unfold rvTouch
  repeat' first
    | exact h
    | (show (List.set _ _ _).length ≤ 12; rw [List.length_set]; exact h)
    | split
theorem len_open {ths : List S34} (text : List ByteArray) (us ln : Int) (tx : ByteArray) (h : ths.length ≤ 12) : (openV text ths us ln tx).1.length ≤ 12 := by
  unfold openV
  by_cases h0 : codeV tx = 0
  · rw [if_pos h0]
    by_cases h1 : ln < 0
    · rw [if_pos h1]; exact h
    rw [if_neg h1]
    by_cases h2 : (text.length : Int) ≤ ln
    · rw [if_pos h2]; exact h
    rw [if_neg h2]
    by_cases h3 : (12 : Int) ≤ (ths.length : Int)
    · rw [if_pos h3]; exact h
    rw [if_neg h3]
    show (ths ++ [_]).length ≤ 12
    rw [List.length_append, List.length_singleton]
    omega
  · rw [if_neg h0]; exact h
theorem len_step {ths : List S34} (text : List ByteArray) (e : S43) (h : ths.length ≤ 12) : (stepV text ths e).2.1.length ≤ 12 := by
  unfold stepV patchS
  repeat' first
    | exact h
    | exact len_open _ _ _ _ h
    | exact len_touch _ _ _ _ h
    | (show (List.map _ _).length ≤ 12; rw [List.length_map]; exact h)
    | split
theorem run_len : ∀ (es : List S43) (i : Int) (text : List ByteArray) (ths : List S34), ths.length ≤ 12 → (runV es i text ths).1.length ≤ 12
  | [], _, _, _, h => h
  | e :: es, i, text, ths, h => by
    simp only [runV]
    split
    · exact run_len es _ _ _ (len_step _ _ h)
    · exact Nat.zero_le _
theorem RunV_len (l0 : List ByteArray) (l1 : List S43) : (RunV l0 l1).1.length ≤ 12 := by
  unfold RunV
  repeat' first
    | exact Nat.zero_le _
    | exact run_len _ _ _ _ (Nat.zero_le _)
    | split
end Go.Proofs.Ytjpdcnaealdbjaa.Pu
/- The example and the comparisons of the laws of threads, in plain words: by the template tmpl/PureThreadsEx.lean of this repo. -/
namespace Go.Proofs.Ytjpdcnaealdbjaa.Pu
open Go.RowKit Go.Proofs.YtjpdcnaealdbjaaW.PrintWords Go.Proofs.YtjpdcnaealdbjaaW.PrintLast Go.Proofs.Ytjpdcnaealdbjaa.PTh
set_option linter.unusedVariables false
set_option linter.unusedSimpArgs false

theorem threadsExample_ev : Ev (fun k => qt_.f k) true := Ev.of qt_.mono (k := 40) (by decide +kernel)
end Go.Proofs.Ytjpdcnaealdbjaa.Pu
/- Pending, in plain words: by the template tmpl/PureThreadsPend.lean of this repo. -/
namespace Go.Proofs.Ytjpdcnaealdbjaa.Pu
open Go.RowKit Go.Proofs.YtjpdcnaealdbjaaW.PrintWords Go.Proofs.YtjpdcnaealdbjaaW.PrintLast Go.Proofs.Ytjpdcnaealdbjaa.PTh
set_option linter.unusedVariables false
set_option linter.unusedSimpArgs false

def pendFrom : List S34 → Nat → List Int
  | [], _ => []
  | t :: ts, j => if t.f4 = true then pendFrom ts (j + 1) else (j : Int) :: pendFrom ts (j + 1)
theorem rd34 {xs : List S34} {j : Nat} {t : S34} (hg : ∀ d, xs.getD j d = t) : rd_T34 xs (j : Int) = t := by
  unfold rd_T34
  rw [Int.toNat_natCast]
  exact hg _
theorem pend_loop (ths : List S34) (hm : ths.length ≤ 12) (c i : Int) : ∀ (ts : List S34) (j : Nat) (acc : List Int), ths.drop j = ts → j ≤ ths.length → acc.length ≤ j →
    Ev (fun k => q3_.l0 k acc ths (ths.length : Int) (j : Int) c i) (acc ++ pendFrom ts j, c, i) := by
  intro ts
  induction ts with
  | nil =>
    intro j acc h hj ha
    have := drop_nil h
    refine Ev.succ ?_
    simp only [q3_.l0, pendFrom, List.append_nil]
    exact Ev.neg (by omega) (Ev.now _)
  | cons t ts ih =>
    intro j acc h hj ha
    obtain ⟨hl, hg, hd⟩ := drop_cons h
    refine Ev.succ ?_
    simp only [q3_.l0, pendFrom]
    rw [rd34 hg]
    refine Ev.pos (by omega) (Ev.pos (by omega) (Ev.pos (by omega) ?_))
    rw [wsucc (by omega)]
    by_cases c4 : t.f4 = true
    · rw [if_pos c4]
      exact Ev.pos c4 (ih (j + 1) acc hd (by omega) (by omega))
    · rw [if_neg c4]
      refine Ev.neg c4 (Ev.pos (by omega) ?_)
      have := ih (j + 1) (acc ++ [(j : Int)]) hd (by omega) (by rw [List.length_append, List.length_singleton]; omega)
      rw [List.append_assoc] at this
      exact this
def PendV (l0 : List ByteArray) (l1 : List S43) : List Int × Int × Int := (pendFrom (RunV l0 l1).1 0, (RunV l0 l1).2.2.1, (RunV l0 l1).2.2.2)
theorem Pending_ev (l0 : List ByteArray) (l1 : List S43) : Ev (fun k => q3_.f k l0 l1) (PendV l0 l1) := by
  unfold q3_.f PendV
  refine Ev.bind (Run_ev l0 l1) ?_
  have := pend_loop (RunV l0 l1).1 (RunV_len l0 l1) (RunV l0 l1).2.2.1 (RunV l0 l1).2.2.2 (RunV l0 l1).1 0 [] rfl (Nat.zero_le _) (Nat.zero_le _)
  simpa using this
end Go.Proofs.Ytjpdcnaealdbjaa.Pu
/- The reference's functions of threads, in plain words: by the template tmpl/PureThreadsFun.lean of this repo. -/
namespace Go.Proofs.Ytjpdcnaealdbjaa.Pu
open Go.RowKit Go.Proofs.YtjpdcnaealdbjaaW.PrintWords Go.Proofs.YtjpdcnaealdbjaaW.PrintLast Go.Proofs.Ytjpdcnaealdbjaa.PTh
set_option linter.unusedVariables false
set_option linter.unusedSimpArgs false

theorem bt_drop {s : ByteArray} {j : Nat} {c : UInt8} {t : List UInt8} (h : s.data.toList.drop j = c :: t) : bt s (j : Int) = (c.toNat : Int) := by
  obtain ⟨hl, hg, _⟩ := drop_cons h
  have hl' : j < s.size := by rw [← len_eq]; exact hl
  unfold bt
  rw [dif_pos (by rw [Int.toNat_natCast]; exact hl')]
  have e := hg 0
  rw [List.getD_eq_getElem?_getD, List.getElem?_eq_getElem hl, Option.getD_some] at e
  rw [← e]
  simp only [Int.toNat_natCast]
  rfl
theorem lineCode_loop (s : ByteArray) (hm : s.size ≤ 80) : ∀ (t : List UInt8) (j : Nat), s.data.toList.drop j = t → j ≤ s.size → Ev (fun k => qv_.l0 k s (j : Int)) (if (10 : UInt8) ∈ t then 5 else 0) := by
  intro t
  induction t with
  | nil =>
    intro j h hj
    have := drop_nil h
    rw [len_eq] at this
    refine Ev.succ ?_
    simp only [qv_.l0]
    exact Ev.neg (by omega) (Ev.now _)
  | cons c t ih =>
    intro j h hj
    obtain ⟨hl, hg, hd⟩ := drop_cons h
    rw [len_eq] at hl
    refine Ev.succ ?_
    simp only [qv_.l0]
    rw [bt_drop h, wsucc (by omega)]
    refine Ev.pos (by omega) (Ev.pos (by omega) ?_)
    by_cases hc : (c.toNat : Int) = 10
    · have e : (10 : UInt8) = c := by
        apply UInt8.toNat_inj.1
        show 10 = c.toNat
        omega
      rw [if_pos (by rw [e]; exact List.mem_cons_self)]
      exact Ev.pos hc (Ev.now _)
    · refine Ev.neg hc ?_
      have e : ((10 : UInt8) ∈ c :: t) ↔ (10 : UInt8) ∈ t := by
        rw [List.mem_cons]
        refine ⟨fun q => q.resolve_left (fun q2 => hc ?_), .inr⟩
        rw [← q2]
        rfl
      have := ih (j + 1) hd (by omega)
      simp only [e]
      exact this
theorem lineCode_ev (s : ByteArray) : Ev (fun k => qv_.f k s) (codeV s) := by
  unfold qv_.f codeV
  by_cases h0 : s.toList = ([] : List UInt8)
  · rw [if_pos h0]
    exact Ev.pos h0 (Ev.now _)
  · rw [if_neg h0]
    refine Ev.neg h0 ?_
    have e : (linesV [s]).1 = lineC s := by
      unfold linesV
      rw [if_neg (by simp)]
      simp only [linesFrom]
      by_cases hz : lineC s = 0
      · simp [hz]
      · simp [hz]
    rw [e]
    unfold lineC
    by_cases h1 : s.size > 80
    · rw [if_pos h1]
      exact Ev.pos (by omega) (Ev.now _)
    · rw [if_neg h1]
      exact Ev.neg (by omega) (lineCode_loop s (by omega) _ 0 rfl (Nat.zero_le _))
/-- What is left of EventCode behind the kind and the unused fields. -/
def tailV (e : S43) : Int := if e.f1 < 0 then 3 else (if 7 < e.f1 then 3 else (if e.f0 < 3 then codeV e.f4 else 0))
def evC (e : S43) : Int := if e.f0 < 1 then 4 else (if 4 < e.f0 then 4 else (if unusedV e = true then 5 else tailV e))
theorem un1 {e : S43} (h : e.f0 = 1) : unusedV e = (if e.f2 = 0 then decide ((e.f5.f0.length : Int) > 0) else true) := by
  unfold unusedV threads_unused.f
  rw [if_pos h]
  split <;> rfl
theorem un2 {e : S43} (h : e.f0 = 2) : unusedV e = (if e.f3 = 0 then decide ((e.f5.f0.length : Int) > 0) else true) := by
  unfold unusedV threads_unused.f
  rw [if_neg (by omega), if_pos h]
  split <;> rfl
theorem un3 {e : S43} (h : e.f0 = 3) : unusedV e = (if e.f3 = 0 then (if e.f4.toList = ([] : List UInt8) then decide ((e.f5.f0.length : Int) > 0) else true) else true) := by
  unfold unusedV threads_unused.f
  rw [if_neg (by omega), if_neg (by omega), if_pos h]
  repeat' first
    | rfl
    | split
theorem un4 {e : S43} (h : e.f0 = 4) : unusedV e = (if e.f3 = 0 then (if e.f4.toList = ([] : List UInt8) then (e.f2 != 0) else true) else true) := by
  unfold unusedV threads_unused.f
  rw [if_neg (by omega), if_neg (by omega), if_neg (by omega)]
  repeat' first
    | rfl
    | split
theorem j4_ev (e : S43) (b : Bool) : Ev (fun k => qj_.j4 k b e.f0 e.f1 e.f2 e.f3 e.f4 e.f5.f0) (if b = true then 5 else tailV e) := by
  refine Ev.succ ?_
  simp only [qj_.j4]
  refine Ev.ite' (fun _ => Ev.now _) (fun _ => ?_)
  have j5 : ∀ c : Bool, Ev (fun k => qj_.j5 k c e.f0 e.f1 e.f2 e.f3 e.f4 e.f5.f0) (if c = true then 3 else (if e.f0 < 3 then codeV e.f4 else 0)) := by
    intro c
    refine Ev.succ ?_
    simp only [qj_.j5]
    exact Ev.ite' (fun _ => Ev.now _) (fun _ => Ev.ite' (fun _ => Ev.bind (lineCode_ev _) (Ev.now _)) (fun _ => Ev.now _))
  unfold tailV
  refine Ev.ite' (fun _ => ?_) (fun _ => ?_)
  · have := j5 true
    rwa [if_pos rfl] at this
  · have := j5 (decide (e.f1 > 7))
    by_cases c : 7 < e.f1
    · rw [if_pos c]
      rwa [if_pos (by simpa using c)] at this
    · rw [if_neg c]
      rwa [if_neg (by simpa using c)] at this
theorem j3_ev (e : S43) (b : Bool) (h : e.f0 = 4 → b = false) : Ev (fun k => qj_.j3 k b e.f0 e.f1 e.f2 e.f3 e.f4 e.f5.f0) (if e.f0 = 4 then (if unusedV e = true then 5 else tailV e) else (if b = true then 5 else tailV e)) := by
  refine Ev.succ ?_
  simp only [qj_.j3]
  by_cases h4 : e.f0 = 4
  · rw [if_pos h4, h h4]
    refine Ev.neg (by simp) (Ev.pos h4 ?_)
    rw [un4 h4]
    refine Ev.ite (fun c => ?_) (fun c => ?_)
    · rw [if_pos c]
      refine Ev.ite (fun d => ?_) (fun d => ?_)
      · rw [if_pos d]; exact j4_ev e _
      · rw [if_neg d]; exact j4_ev e _
    · rw [if_neg c]; exact j4_ev e _
  · rw [if_neg h4]
    refine Ev.ite' (fun _ => Ev.now _) (fun _ => Ev.neg h4 ?_)
    have := j4_ev e false
    rwa [if_neg (by simp)] at this
theorem j2_ev (e : S43) (b : Bool) (h : e.f0 = 3 ∨ e.f0 = 4 → b = false) : Ev (fun k => qj_.j2 k (decide ((e.f5.f0.length : Int) > 0)) b e.f0 e.f1 e.f2 e.f3 e.f4 e.f5.f0) (if e.f0 = 3 ∨ e.f0 = 4 then (if unusedV e = true then 5 else tailV e) else (if b = true then 5 else tailV e)) := by
  refine Ev.succ ?_
  simp only [qj_.j2]
  by_cases h3 : e.f0 = 3
  · rw [if_pos (.inl h3), h (.inl h3)]
    refine Ev.neg (by simp) (Ev.pos h3 ?_)
    rw [un3 h3]
    have j := fun b => j3_ev e b (fun q => by omega)
    simp only [show ¬ e.f0 = 4 by omega, if_false] at j
    refine Ev.ite (fun c => ?_) (fun c => ?_)
    · rw [if_pos c]
      refine Ev.ite (fun d => ?_) (fun d => ?_)
      · rw [if_pos d]; exact j _
      · rw [if_neg d]; exact j _
    · rw [if_neg c]; exact j _
  · by_cases h4 : e.f0 = 4
    · rw [if_pos (.inr h4), h (.inr h4)]
      refine Ev.neg (by simp) (Ev.neg h3 ?_)
      have := j3_ev e false (fun _ => rfl)
      rwa [if_pos h4] at this
    · rw [if_neg (by omega)]
      refine Ev.ite' (fun _ => Ev.now _) (fun _ => Ev.neg h3 ?_)
      have := j3_ev e false (fun _ => rfl)
      rwa [if_neg h4, if_neg (by simp)] at this
theorem j1_ev (e : S43) (b : Bool) (h : e.f0 ≠ 1 → b = false) (hk : e.f0 = 1 ∨ e.f0 = 2 ∨ e.f0 = 3 ∨ e.f0 = 4) : Ev (fun k => qj_.j1 k (decide ((e.f5.f0.length : Int) > 0)) b e.f0 e.f1 e.f2 e.f3 e.f4 e.f5.f0) (if e.f0 = 1 then (if b = true then 5 else tailV e) else (if unusedV e = true then 5 else tailV e)) := by
  refine Ev.succ ?_
  simp only [qj_.j1]
  have j := fun b q => j2_ev e b q
  by_cases h1 : e.f0 = 1
  · rw [if_pos h1]
    refine Ev.ite' (fun _ => Ev.now _) (fun _ => Ev.neg (by omega) ?_)
    have := j false (fun _ => rfl)
    rwa [if_neg (by omega), if_neg (by simp)] at this
  · rw [if_neg h1, h h1]
    refine Ev.neg (by simp) ?_
    by_cases h2 : e.f0 = 2
    · refine Ev.pos h2 ?_
      rw [un2 h2]
      refine Ev.ite (fun c => ?_) (fun c => ?_)
      · rw [if_pos c]
        have := j (decide ((e.f5.f0.length : Int) > 0)) (fun q => by omega)
        rwa [if_neg (by omega)] at this
      · rw [if_neg c]
        have := j true (fun q => by omega)
        rwa [if_neg (by omega)] at this
    · refine Ev.neg h2 ?_
      have := j false (fun _ => rfl)
      rwa [if_pos (by omega)] at this
theorem eventCode_ev (e : S43) : Ev (fun k => qj_.f k e.f0 e.f1 e.f2 e.f3 e.f4 e.f5.f0) (evC e) := by
  unfold qj_.f evC
  have j0 : ∀ b : Bool, (b = true ↔ e.f0 < 1 ∨ 4 < e.f0) → Ev (fun k => qj_.j0 k (decide ((e.f5.f0.length : Int) > 0)) b e.f0 e.f1 e.f2 e.f3 e.f4 e.f5.f0) (if b = true then 4 else (if unusedV e = true then 5 else tailV e)) := by
    intro b hb
    refine Ev.succ ?_
    simp only [qj_.j0]
    refine Ev.ite' (fun _ => Ev.now _) (fun nb => ?_)
    have hk : e.f0 = 1 ∨ e.f0 = 2 ∨ e.f0 = 3 ∨ e.f0 = 4 := by
      have : ¬ (e.f0 < 1 ∨ 4 < e.f0) := fun q => nb (hb.2 q)
      omega
    by_cases h1 : e.f0 = 1
    · refine Ev.pos h1 ?_
      rw [un1 h1]
      refine Ev.ite (fun c => ?_) (fun c => ?_)
      · rw [if_pos c]
        have := j1_ev e (decide ((e.f5.f0.length : Int) > 0)) (fun q => absurd h1 q) hk
        rwa [if_pos h1] at this
      · rw [if_neg c]
        have := j1_ev e true (fun q => absurd h1 q) hk
        rwa [if_pos h1] at this
    · refine Ev.neg h1 ?_
      have := j1_ev e false (fun _ => rfl) hk
      rwa [if_neg h1] at this
  by_cases h0 : e.f0 < 1
  · rw [if_pos h0]
    refine Ev.pos h0 ?_
    have := j0 true ⟨fun _ => .inl h0, fun _ => rfl⟩
    rwa [if_pos rfl] at this
  · rw [if_neg h0]
    refine Ev.neg h0 ?_
    have := j0 (decide (e.f0 > 4)) (by simp; omega)
    by_cases h4 : 4 < e.f0
    · rw [if_pos h4]
      rwa [if_pos (by simpa using h4)] at this
    · rw [if_neg h4]
      rwa [if_neg (by simpa using h4)] at this
theorem evC_kind {e : S43} (h : evC e = 0) : (e.f0 = 1 ∨ e.f0 = 2 ∨ e.f0 = 3 ∨ e.f0 = 4) ∧ unusedV e = false ∧ 0 ≤ e.f1 ∧ e.f1 ≤ 7 ∧ (e.f0 < 3 → codeV e.f4 = 0) := by
  unfold evC at h
  by_cases h1 : e.f0 < 1
  · rw [if_pos h1] at h; cases h
  rw [if_neg h1] at h
  by_cases h2 : 4 < e.f0
  · rw [if_pos h2] at h; cases h
  rw [if_neg h2] at h
  by_cases h3 : unusedV e = true
  · rw [if_pos h3] at h; cases h
  rw [if_neg h3] at h
  unfold tailV at h
  by_cases h4 : e.f1 < 0
  · rw [if_pos h4] at h; cases h
  rw [if_neg h4] at h
  by_cases h5 : 7 < e.f1
  · rw [if_pos h5] at h; cases h
  rw [if_neg h5] at h
  refine ⟨by omega, by simpa using h3, by omega, by omega, fun q => ?_⟩
  rwa [if_pos q] at h
theorem step_bad {e : S43} (text : List ByteArray) (ths : List S34) (h : evC e ≠ 0) : (stepV text ths e).2.2 = evC e := by
  unfold evC at h ⊢
  unfold stepV
  by_cases h1 : e.f0 < 1
  · rw [if_pos h1, if_pos h1]
  rw [if_neg h1] at h ⊢
  rw [if_neg h1]
  by_cases h2 : 4 < e.f0
  · rw [if_pos h2, if_pos h2]
  rw [if_neg h2] at h ⊢
  rw [if_neg h2]
  by_cases h3 : unusedV e = true
  · rw [if_pos h3, if_pos h3]
  rw [if_neg h3] at h ⊢
  rw [if_neg h3]
  unfold tailV at h ⊢
  by_cases h4 : e.f1 < 0
  · rw [if_pos h4, if_pos h4]
  rw [if_neg h4] at h ⊢
  rw [if_neg h4]
  by_cases h5 : 7 < e.f1
  · rw [if_pos h5, if_pos h5]
  rw [if_neg h5] at h ⊢
  rw [if_neg h5]
  by_cases h6 : e.f0 < 3
  · rw [if_pos h6] at h ⊢
    by_cases k1 : e.f0 = 1
    · rw [if_pos k1]
      show (openV text ths e.f1 e.f3 e.f4).2 = _
      unfold openV
      rw [if_neg h]
    · rw [if_neg k1, if_neg (by omega), if_pos (by omega), if_neg h]
  · rw [if_neg h6] at h
    exact absurd rfl h
def commentV (ths : List S34) (e : S43) (n : Int) : List S34 × Int :=
  if e.f0 = 1 then (if e.f3 < 0 then (ths, 3) else (if n ≤ e.f3 then (ths, 3) else (if (12 : Int) ≤ (ths.length : Int) then (ths, 14) else (ths ++ [⟨e.f1, e.f3, 1, false, false⟩], 0)))) else (rvTouch [] ths e.f0 e.f1 e.f2).2
theorem touch_any (text : List ByteArray) (ths : List S34) (e0 e1 e2 : Int) : rvTouch text ths e0 e1 e2 = (text, (rvTouch [] ths e0 e1 e2).2) := by
  unfold rvTouch
  repeat' first
    | rfl
    | split
theorem step_patch {e : S43} (text : List ByteArray) (ths : List S34) (h : evC e = 0) (h4 : e.f0 = 4) : stepV text ths e = patchS text ths e.f5.f0 := by
  obtain ⟨a, b, c, d, f⟩ := evC_kind h
  unfold stepV
  rw [if_neg (by omega), if_neg (by omega), if_neg (by rw [b]; decide), if_neg (by omega), if_neg (by omega), if_neg (by omega), if_pos h4]
theorem step_other {e : S43} (text : List ByteArray) (ths : List S34) (h : evC e = 0) (h4 : e.f0 ≠ 4) : stepV text ths e = (text, (commentV ths e (text.length : Int)).1, (commentV ths e (text.length : Int)).2) := by
  obtain ⟨a, b, c, d, f⟩ := evC_kind h
  unfold stepV commentV
  rw [if_neg (by omega), if_neg (by omega), if_neg (by rw [b]; decide), if_neg (by omega), if_neg (by omega)]
  by_cases k1 : e.f0 = 1
  · rw [if_pos k1, if_pos k1]
    unfold openV
    rw [if_pos (f (by omega))]
  · rw [if_neg k1, if_neg k1, if_neg h4]
    by_cases k2 : e.f0 = 2
    · rw [if_pos k2, if_pos (f (by omega)), touch_any text]
    · rw [if_neg k2, touch_any text]
theorem rdG (xs : List S34) (i : Int) : rd_T34 xs i = xs.getD i.toNat z34 := rfl
theorem comment_ev (ths : List S34) (e : S43) (n : Int) (hl : ths.length ≤ 12) (hk : e.f0 = 1 ∨ e.f0 = 2 ∨ e.f0 = 3) : Ev (fun k => qu_.f k ths e.f0 e.f1 e.f2 e.f3 e.f4 e.f5.f0 n) (commentV ths e n) := by
  unfold qu_.f commentV
  refine Ev.pos (by simp only [List.length_nil]; omega) ?_
  simp only [Option.bind_some, List.nil_append]
  by_cases k1 : e.f0 = 1
  · rw [if_pos k1]
    refine Ev.pos k1 ?_
    have j0 : ∀ b : Bool, Ev (fun k => qu_.j0 k ths ths b e.f0 e.f1 e.f2 e.f3 e.f4 e.f5.f0) (if b = true then (ths, 3) else (if (12 : Int) ≤ (ths.length : Int) then (ths, 14) else (ths ++ [⟨e.f1, e.f3, 1, false, false⟩], 0))) := by
      intro b
      refine Ev.succ ?_
      simp only [qu_.j0]
      refine Ev.ite' (fun _ => Ev.now _) (fun _ => ?_)
      exact Ev.ite' (c := (12 : Int) ≤ (ths.length : Int)) (fun _ => Ev.now _) (fun _ => Ev.pos (by omega) (Ev.now _))
    by_cases c : e.f3 < 0
    · rw [if_pos c]
      refine Ev.pos c ?_
      have := j0 true
      rwa [if_pos rfl] at this
    · rw [if_neg c]
      refine Ev.neg c ?_
      have := j0 (decide (e.f3 ≥ n))
      by_cases d : n ≤ e.f3
      · rw [if_pos d]
        rwa [if_pos (by simpa using d)] at this
      · rw [if_neg d]
        rwa [if_neg (by simpa using d)] at this
  · rw [if_neg k1]
    refine Ev.neg k1 ?_
    have j1t : Ev (fun k => qu_.j1 k ths ths true e.f0 e.f1 e.f2 e.f3 e.f4 e.f5.f0) (ths, 6) := by
      refine Ev.succ ?_
      simp only [qu_.j1]
      exact Ev.pos (by trivial) (Ev.now _)
    unfold rvTouch
    by_cases c : e.f2 < 0
    · rw [if_pos c]
      exact Ev.pos c j1t
    · rw [if_neg c]
      refine Ev.neg c ?_
      by_cases d : (ths.length : Int) ≤ e.f2
      · rw [if_pos d, decide_eq_true (show e.f2 ≥ (ths.length : Int) from d)]
        exact j1t
      · rw [if_neg d, decide_eq_false (show ¬ e.f2 ≥ (ths.length : Int) from d)]
        refine Ev.succ ?_
        simp only [qu_.j1, rdG]
        refine Ev.neg (by simp) ?_
        have hi : e.f2.toNat < ths.length := by omega
        by_cases k2 : e.f0 = 2
        · refine Ev.pos k2 (Ev.pos (by omega) (Ev.pos (by omega) ?_))
          rw [if_pos k2]
          simp only [Option.bind_some]
          have e1 : ∀ x : S34, (ths.set e.f2.toNat x).getD e.f2.toNat z34 = x := fun x => by simp only [List.getD_eq_getElem?_getD, List.getElem?_set_self hi, Option.getD_some]
          rw [e1]
          simp only [List.set_set]
          exact Ev.now _
        · refine Ev.neg k2 (Ev.pos (by omega) (Ev.pos (by omega) ?_))
          rw [if_neg k2]
          by_cases d4 : (ths.getD e.f2.toNat z34).f4 = true
          · refine Ev.pos d4 ?_
            rw [if_pos d4]
            exact Ev.now _
          · refine Ev.neg d4 ?_
            rw [if_neg d4]
            by_cases d5 : (ths.getD e.f2.toNat z34).f0 = e.f1
            · refine Ev.pos d5 (Ev.pos (by omega) ?_)
              rw [if_pos d5]
              exact Ev.now _
            · refine Ev.neg d5 ?_
              rw [if_neg d5]
              exact Ev.now _
theorem up_get : ∀ (c i : Nat) (n : Int), i < c → (PTh.up c n).getD i (0, false) = (n + (i : Int), true)
  | 0, i, n, h => absurd h (by omega)
  | c + 1, 0, n, _ => by simp [PTh.up]
  | c + 1, i + 1, n, h => by
    simp only [PTh.up, List.getD_cons_succ]
    rw [up_get c i (n + 1) (by omega)]
    congr 1
    omega
theorem getD_left {α : Type} {a b : List α} {i : Nat} {d : α} (h : i < a.length) : (a ++ b).getD i d = a.getD i d := by simp only [List.getD_eq_getElem?_getD, List.getElem?_append_left h]
theorem getD_right {α : Type} {a b : List α} {i : Nat} {d : α} (h : a.length ≤ i) : (a ++ b).getD i d = b.getD (i - a.length) d := by simp only [List.getD_eq_getElem?_getD, List.getElem?_append_right h]
/-- The traced place is the place. -/
theorem trL_place : ∀ (hs : List S52) (o i : Nat) (n shift : Int), Valid (o : Int) hs → o ≤ i → i < 130 → n = (o : Int) + shift →
    ((trL hs o n).getD (i - o) (0, false)).2 = (place hs (i : Int) shift).2 ∧ ((place hs (i : Int) shift).2 = true → ((trL hs o n).getD (i - o) (0, false)).1 = (place hs (i : Int) shift).1)
  | [], o, i, n, shift, _, h1, h2, h3 => by
    simp only [trL, place]
    rw [up_get _ _ _ (by omega)]
    exact ⟨rfl, fun _ => by show n + ((i - o : Nat) : Int) = (i : Int) + shift; omega⟩
  | h :: t, o, i, n, shift, hv, h1, h2, h3 => by
    obtain ⟨a1, a2, a3, a4, a5, a6, a7, hv'⟩ := hv
    simp only [trL]
    unfold place
    by_cases c1 : (i : Int) < h.f0
    · rw [if_pos c1, getD_left (by rw [up_len]; omega), up_get _ _ _ (by omega)]
      exact ⟨rfl, fun _ => by show n + ((i - o : Nat) : Int) = (i : Int) + shift; omega⟩
    · rw [if_neg c1, getD_right (by rw [up_len]; omega), up_len]
      by_cases c2 : (i : Int) < h.f0 + h.f1.length
      · rw [if_pos c2, getD_left (by rw [List.length_replicate]; omega)]
        have e : (List.replicate h.f1.length (n + ((h.f0.toNat - o : Nat) : Int), false)).getD (i - o - (h.f0.toNat - o)) (0, false) = (n + ((h.f0.toNat - o : Nat) : Int), false) := by
          rw [List.getD_eq_getElem?_getD, List.getElem?_replicate, if_pos (by omega)]
          rfl
        rw [e]
        exact ⟨rfl, fun q => by cases q⟩
      · rw [if_neg c2, getD_right (by rw [List.length_replicate]; omega), List.length_replicate]
        have hv2 : Valid ((h.f0.toNat + h.f1.length : Nat) : Int) t := Valid_mono (by omega) hv'
        have := trL_place t (h.f0.toNat + h.f1.length) i (n + ((h.f0.toNat - o : Nat) : Int) + (h.f2.length : Int)) (shift + (h.f2.length - h.f1.length)) hv2 (by omega) h2 (by omega)
        rw [show i - o - (h.f0.toNat - o) - h.f1.length = i - (h.f0.toNat + h.f1.length) by omega]
        exact this
theorem trOk_valid : ∀ (hs : List S52) (o : Nat), Valid (o : Int) hs → o ≤ 130 → trOk o hs = true
  | [], o, _, h => by simp [trOk, h]
  | h :: t, o, hv, ho => by
    obtain ⟨a1, a2, a3, a4, a5, a6, a7, hv'⟩ := hv
    have l2 := linesV_len a4
    simp only [trOk, Bool.and_eq_true, decide_eq_true_eq]
    exact ⟨⟨by omega, by omega, by omega⟩, trOk_valid t _ (Valid_mono (by omega) hv') (by omega)⟩
theorem flw_mv {p : List S52} {t : S34} (hv : Valid 0 p) (hb : t.f3 = false → 0 ≤ t.f1 ∧ t.f1 < 130) : flw (trL p 0 0) t = mv p t := by
  unfold flw mv
  by_cases h : t.f3 = true
  · rw [if_pos h, if_pos h]
    cases t
    simp only at h
    rw [h]
  · rw [if_neg h, if_neg h]
    obtain ⟨b1, b2⟩ := hb (by simpa using h)
    obtain ⟨i, hi⟩ : ∃ i : Nat, t.f1 = (i : Int) := ⟨t.f1.toNat, by omega⟩
    obtain ⟨q1, q2⟩ := trL_place p 0 i 0 0 hv (Nat.zero_le _) (by omega) (by simp)
    rw [Nat.sub_zero] at q1 q2
    rw [hi, Int.toNat_natCast, q1]
    by_cases c : (place p (i : Int) 0).2 = true
    · rw [if_pos c, if_pos c, q2 c]
    · rw [if_neg c, if_neg c]
theorem follow_ev {text : List ByteArray} {ths : List S34} {p : List S52} (hf : Fit text ths) (hl : ths.length ≤ 12) (hz : (applyV p text).2.1 = 0) : Ev (fun k => changeforgeref7_Follow.f k ths p) (ths.map (mv p)) := by
  obtain ⟨h1, _, _, _, _⟩ := applyV_ok hz
  obtain ⟨_, hm, hv⟩ := patchV_zero h1
  have hb : ∀ t ∈ ths, t.f3 = false → 0 ≤ t.f1 ∧ t.f1 < 130 := fun t ht h3 => by have := hf.2 t ht h3; have := hf.1; omega
  have e : ths.map (flw (trL p 0 0)) = ths.map (mv p) := List.map_congr_left (fun t ht => flw_mv hv (hb t ht))
  unfold changeforgeref7_Follow.f
  rw [e]
  refine Ev.pos ?_ (Ev.now _)
  simp only [Bool.and_eq_true, decide_eq_true_eq]
  refine ⟨⟨⟨trOk_valid p 0 hv (by decide), by omega⟩, ?_⟩, by omega⟩
  unfold flOk
  rw [List.all_eq_true]
  intro t ht
  by_cases h : t.f3 = true
  · rw [h]; rfl
  · have := hb t ht (by simpa using h)
    simp only [Bool.or_eq_true, decide_eq_true_eq]
    exact .inr this
theorem rd43' {xs : List S43} {j : Nat} {t : S43} (hg : ∀ d, xs.getD j d = t) : rd_T43 xs (j : Int) = t := by
  unfold rd_T43
  rw [Int.toNat_natCast]
  exact hg _
theorem fault_eq (a b : Int) : changeforgeref7_Fault.f a b = some (a, b) := rfl
theorem replay_loop (l1 : List S43) (hm : l1.length ≤ 30) : ∀ (ts : List S43) (j : Nat) (text : List ByteArray) (ths : List S34), l1.drop j = ts → j ≤ l1.length → Fit text ths → ths.length ≤ 12 →
    Ev (fun k => qm_.l0 k text l1 ths (j : Int)) (runV ts (j : Int) text ths) := by
  intro ts
  induction ts with
  | nil =>
    intro j text ths h hj hf hl
    have := drop_nil h
    refine Ev.succ ?_
    simp only [qm_.l0, runV]
    exact Ev.neg (by omega) (Ev.now _)
  | cons e ts ih =>
    intro j text ths h hj hf hl
    obtain ⟨hlt, hg, hd⟩ := drop_cons h
    refine Ev.succ ?_
    simp only [qm_.l0]
    rw [rd43' hg]
    refine Ev.pos (by omega) (Ev.pos (by omega) (Ev.bind (eventCode_ev e) ?_))
    have hnext : (stepV text ths e).2.2 = 0 → Ev (fun k => qm_.l0 k (stepV text ths e).1 l1 (stepV text ths e).2.1 ((j + 1 : Nat) : Int)) (runV ts ((j : Int) + 1) (stepV text ths e).1 (stepV text ths e).2.1) := fun _ => by
      have := ih (j + 1) (stepV text ths e).1 (stepV text ths e).2.1 hd (by omega) (fit_step e hf) (len_step text e hl)
      rw [show ((j + 1 : Nat) : Int) = (j : Int) + 1 by omega] at this ⊢
      exact this
    by_cases c : evC e = 0
    · refine Ev.pos c ?_
      by_cases h4 : e.f0 = 4
      · rw [show (e.f0 == 4) = true by rw [h4]; rfl]
        refine Ev.succ ?_
        simp only [qm_.j1]
        rw [rd43' hg]
        refine Ev.pos (by trivial) (Ev.pos (by omega) (Ev.pos (by omega) (Ev.bind (Apply_ev e.f5.f0 text) ?_)))
        have es := step_patch text ths c h4
        rw [es] at hnext
        simp only [runV]
        rw [es]
        unfold patchS at hnext ⊢
        by_cases hz : (applyV e.f5.f0 text).2.1 = 0
        · rw [if_pos hz] at hnext ⊢
          refine Ev.pos hz (Ev.bind (follow_ev hf hl hz) ?_)
          rw [if_pos rfl, wsucc (by omega)]
          have e2 : (applyV e.f5.f0 text).1 = outF text e.f5.f0 0 := by rw [(applyV_ok hz).2.2.1]
          rw [e2]
          exact hnext rfl
        · rw [if_neg hz]
          refine Ev.neg hz ?_
          simp only [fault_eq, Option.bind_some]
          rw [if_neg hz]
          exact Ev.now _
      · rw [show (e.f0 == 4) = false by simpa using h4]
        refine Ev.succ ?_
        simp only [qm_.j1]
        rw [rd43' hg]
        have hk : e.f0 = 1 ∨ e.f0 = 2 ∨ e.f0 = 3 := by have := (evC_kind c).1; omega
        refine Ev.neg (by simp) (Ev.pos c (Ev.pos (by omega) (Ev.pos (by omega) (Ev.bind (comment_ev ths e _ hl hk) ?_))))
        have es := step_other text ths c h4
        rw [es] at hnext
        simp only [runV]
        rw [es]
        by_cases hz : (commentV ths e (text.length : Int)).2 = 0
        · rw [if_pos hz]
          refine Ev.pos hz ?_
          rw [wsucc (by omega)]
          exact hnext hz
        · rw [if_neg hz]
          refine Ev.neg hz ?_
          simp only [fault_eq, Option.bind_some]
          exact Ev.now _
    · refine Ev.neg c ?_
      refine Ev.succ ?_
      simp only [qm_.j1]
      refine Ev.neg (by simp) (Ev.neg c ?_)
      simp only [fault_eq, Option.bind_some, runV]
      rw [step_bad text ths c, if_neg c]
      exact Ev.now _
theorem replay_ev (l0 : List ByteArray) (l1 : List S43) : Ev (fun k => qm_.f k l0 l1) (RunV l0 l1) := by
  unfold qm_.f RunV
  refine Ev.bind (lines_Validate_ev l0) ?_
  by_cases h : (linesV l0).1 = 0
  · rw [if_pos h]
    refine Ev.pos h ?_
    by_cases h2 : (30 : Int) < (l1.length : Int)
    · rw [if_pos h2]
      refine Ev.pos (by omega) ?_
      simp only [fault_eq, Option.bind_some]
      exact Ev.now _
    · rw [if_neg h2]
      exact Ev.neg (by omega) (replay_loop l1 (by omega) l1 0 l0 [] rfl (Nat.zero_le _) (fit_nil h) (Nat.zero_le _))
  · rw [if_neg h]
    refine Ev.neg h (Ev.bind (lines_Validate_ev l0) ?_)
    simp only [fault_eq, Option.bind_some]
    exact Ev.now _
theorem runV_nil : ∀ (es : List S43) (i : Int) (text : List ByteArray) (ths : List S34), (runV es i text ths).2.2.1 ≠ 0 → (runV es i text ths).1 = [] ∧ (runV es i text ths).2.1 = []
  | [], _, _, _, h => absurd rfl h
  | e :: es, i, text, ths, h => by
    simp only [runV] at h ⊢
    by_cases c : (stepV text ths e).2.2 = 0
    · rw [if_pos c] at h ⊢
      exact runV_nil es _ _ _ h
    · rw [if_neg c]
      exact ⟨rfl, rfl⟩
theorem RunV_nil {l0 : List ByteArray} {l1 : List S43} (h : (RunV l0 l1).2.2.1 ≠ 0) : (RunV l0 l1).1 = [] ∧ (RunV l0 l1).2.1 = [] := by
  unfold RunV at h ⊢
  by_cases h1 : (linesV l0).1 = 0
  · rw [if_pos h1] at h ⊢
    by_cases h2 : (30 : Int) < (l1.length : Int)
    · rw [if_pos h2]
      exact ⟨rfl, rfl⟩
    · rw [if_neg h2] at h ⊢
      exact runV_nil _ _ _ _ h
  · rw [if_neg h1]
    exact ⟨rfl, rfl⟩
def loadFrom : List S34 → List Int → List Int
  | [], a => a
  | t :: ts, a => if t.f4 = true then loadFrom ts a else (if t.f3 = true then loadFrom ts a else loadFrom ts (a.set t.f1.toNat (wrap64 (rd a t.f1 + 1))))
theorem load_loop (ths : List S34) (hm : ths.length ≤ 12) (c i : Int) : ∀ (ts : List S34) (j : Nat) (acc : List Int), ths.drop j = ts → j ≤ ths.length → (∀ t ∈ ts, t.f3 = false → 0 ≤ t.f1 ∧ t.f1 < acc.length) →
    Ev (fun k => q4_.l0 k acc ths (ths.length : Int) (j : Int) c i) (loadFrom ts acc, c, i) := by
  intro ts
  induction ts with
  | nil =>
    intro j acc h hj ha
    have := drop_nil h
    refine Ev.succ ?_
    simp only [q4_.l0, loadFrom]
    exact Ev.neg (by omega) (Ev.now _)
  | cons t ts ih =>
    intro j acc h hj ha
    obtain ⟨hl, hg, hd⟩ := drop_cons h
    refine Ev.succ ?_
    simp only [q4_.l0, loadFrom]
    rw [rd34 hg]
    refine Ev.pos (by omega) (Ev.pos (by omega) (Ev.pos (by omega) ?_))
    rw [wsucc (by omega)]
    have ha' := fun q hq => ha q (List.mem_cons_of_mem _ hq)
    by_cases c4 : t.f4 = true
    · rw [if_pos c4]
      exact Ev.pos c4 (ih (j + 1) acc hd (by omega) ha')
    · rw [if_neg c4]
      refine Ev.neg c4 ?_
      by_cases c3 : t.f3 = true
      · rw [if_pos c3]
        exact Ev.pos c3 (ih (j + 1) acc hd (by omega) ha')
      · rw [if_neg c3]
        obtain ⟨b1, b2⟩ := ha t List.mem_cons_self (by simpa using c3)
        refine Ev.neg c3 (Ev.pos b1 (Ev.pos b2 ?_))
        exact ih (j + 1) _ hd (by omega) (fun q hq h3 => by rw [List.length_set]; exact ha' q hq h3)
def LoadV (l0 : List ByteArray) (l1 : List S43) : List Int × Int × Int := (loadFrom (RunV l0 l1).1 (List.replicate (RunV l0 l1).2.1.length 0), (RunV l0 l1).2.2.1, (RunV l0 l1).2.2.2)
theorem RunV_fit (l0 : List ByteArray) (l1 : List S43) : Fit (RunV l0 l1).2.1 (RunV l0 l1).1 := by
  by_cases hz : (RunV l0 l1).2.2.1 = 0
  · obtain ⟨k1, k2, k3⟩ := RunV_ok hz
    rw [k3] at hz ⊢
    exact run_fit _ _ _ _ (fit_nil k1) hz
  · have e : (RunV l0 l1).1 = [] ∧ (RunV l0 l1).2.1 = [] := RunV_nil hz
    rw [e.1, e.2]
    exact ⟨by decide, fun t ht => absurd ht (by simp)⟩
theorem Load_ev (l0 : List ByteArray) (l1 : List S43) : Ev (fun k => q4_.f k l0 l1) (LoadV l0 l1) := by
  unfold q4_.f LoadV
  have hf := RunV_fit l0 l1
  refine Ev.bind (Run_ev l0 l1) (Ev.pos (by omega) (Ev.pos (by rw [Int.toNat_natCast]; have := hf.1; omega) ?_))
  rw [Int.toNat_natCast]
  exact load_loop _ (RunV_len l0 l1) _ _ (RunV l0 l1).1 0 _ rfl (Nat.zero_le _) (fun t ht h3 => by rw [List.length_replicate]; exact hf.2 t ht h3)
end Go.Proofs.Ytjpdcnaealdbjaa.Pu
/- Run, Pending and Load return what the specification requires: the law ThreadsFunctionsMatchSpec returns true. -/
namespace Go.Proofs.Ytjpdcnaealdbjaa.Pure
open Go.RowKit Go.Proofs.YtjpdcnaealdbjaaW.PrintWords Go.Proofs.YtjpdcnaealdbjaaW.PrintLast Go.Proofs.Ytjpdcnaealdbjaa.PTh Go.Proofs.Ytjpdcnaealdbjaa.Pu
set_option linter.unusedVariables false
set_option linter.unusedSimpArgs false

theorem same_loop (a : List S34) (hm : a.length < 9223372036854775807) : ∀ (d j : Nat), a.length - j = d → j ≤ a.length → Ev (fun k => qs_.l0 k a a (j : Int)) true := by
  intro d
  induction d with
  | zero =>
    intro j h hj
    refine Ev.succ ?_
    simp only [qs_.l0]
    exact Ev.neg (by omega) (Ev.now _)
  | succ d ih =>
    intro j h hj
    refine Ev.succ ?_
    simp only [qs_.l0]
    refine Ev.pos (by omega) (Ev.pos (by omega) (Ev.pos (by omega) (Ev.pos (by simp) ?_)))
    rw [wsucc (by omega)]
    exact ih (j + 1) (by omega) (by omega)
theorem same_ev (a : List S34) (hm : a.length < 9223372036854775807) : Ev (fun k => qs_.f k a a) true := by
  unfold qs_.f
  exact Ev.pos rfl (same_loop a hm _ 0 rfl (by omega))
theorem eqs_loop (a : List ByteArray) (hm : a.length < 9223372036854775807) : ∀ (d j : Nat), a.length - j = d → j ≤ a.length → Ev (fun k => ql_.l0 k a a (j : Int)) true := by
  intro d
  induction d with
  | zero =>
    intro j h hj
    refine Ev.succ ?_
    simp only [ql_.l0]
    exact Ev.neg (by omega) (Ev.now _)
  | succ d ih =>
    intro j h hj
    refine Ev.succ ?_
    simp only [ql_.l0]
    refine Ev.pos (by omega) (Ev.pos (by omega) (Ev.pos (by omega) (Ev.pos (by first | trivial | rfl) ?_)))
    rw [wsucc (by omega)]
    exact ih (j + 1) (by omega) (by omega)
theorem eqs_ev (a : List ByteArray) (hm : a.length < 9223372036854775807) : Ev (fun k => ql_.f k a a) true := by
  unfold ql_.f
  exact Ev.pos rfl (eqs_loop a hm _ 0 rfl (by omega))
theorem ints_loop (a : List Int) (hm : a.length < 9223372036854775807) : ∀ (d j : Nat), a.length - j = d → j ≤ a.length → Ev (fun k => qk_.l0 k a a (j : Int)) true := by
  intro d
  induction d with
  | zero =>
    intro j h hj
    refine Ev.succ ?_
    simp only [qk_.l0]
    exact Ev.neg (by omega) (Ev.now _)
  | succ d ih =>
    intro j h hj
    refine Ev.succ ?_
    simp only [qk_.l0]
    refine Ev.pos (by omega) (Ev.pos (by omega) (Ev.pos (by omega) (Ev.pos (by first | trivial | rfl) ?_)))
    rw [wsucc (by omega)]
    exact ih (j + 1) (by omega) (by omega)
theorem ints_ev (a : List Int) (hm : a.length < 9223372036854775807) : Ev (fun k => qk_.f k a a) true := by
  unfold qk_.f
  exact Ev.pos rfl (ints_loop a hm _ 0 rfl (by omega))
theorem fun_loop (ths : List S34) (text : List ByteArray) (hm : ths.length ≤ 12) (ht : text.length ≤ 120) (pn ld : List Int) (d1 d2 d3 : Int) : ∀ (ts : List S34) (j : Nat) (acc out : List Int), ths.drop j = ts → j ≤ ths.length → out.length ≤ j → acc.length ≤ 120 → (∀ t ∈ ts, t.f3 = false → 0 ≤ t.f1 ∧ t.f1 < acc.length) → out ++ pendFrom ts j = pn → loadFrom ts acc = ld →
    Ev (fun k => q8_.l0 k ths text pn ld ths text acc out (j : Int) 0 d1 0 d2 0 d3) true := by
  intro ts
  induction ts with
  | nil =>
    intro j acc out h hj ho hacc hr hp hld
    have hle := drop_nil h
    refine Ev.succ ?_
    simp only [q8_.l0]
    simp only [pendFrom, List.append_nil] at hp
    simp only [loadFrom] at hld
    subst hp
    subst hld
    refine Ev.neg (by omega) (Ev.pos (by first | trivial | rfl) (Ev.pos (by first | trivial | rfl) (Ev.pos (by first | trivial | rfl) ?_)))
    exact Ev.bind (same_ev _ (by omega)) (Ev.pos rfl (Ev.bind (eqs_ev _ (by omega)) (Ev.pos rfl (Ev.bind (ints_ev _ (by omega)) (Ev.pos rfl (Ev.bind (ints_ev _ (by omega)) (Ev.now _)))))))
  | cons t ts ih =>
    intro j acc out h hj ho hacc hr hp hld
    obtain ⟨hl, hg, hd⟩ := drop_cons h
    have hr' := fun q hq => hr q (List.mem_cons_of_mem _ hq)
    refine Ev.succ ?_
    simp only [q8_.l0]
    rw [rd34 hg]
    simp only [pendFrom] at hp
    simp only [loadFrom] at hld
    refine Ev.pos (by omega) (Ev.pos (by omega) ?_)
    rw [wsucc (by omega)]
    by_cases c4 : t.f4 = true
    · rw [if_pos c4] at hp hld
      exact Ev.pos c4 (ih (j + 1) acc out hd (by omega) (by omega) hacc hr' hp hld)
    · rw [if_neg c4] at hp hld
      refine Ev.neg c4 (Ev.pos (by omega) ?_)
      simp only [Option.bind_some]
      have hp2 : (out ++ [(j : Int)]) ++ pendFrom ts (j + 1) = pn := by rw [List.append_assoc]; exact hp
      by_cases c3 : t.f3 = true
      · rw [if_pos c3] at hld
        exact Ev.pos c3 (ih (j + 1) acc _ hd (by omega) (by rw [List.length_append, List.length_singleton]; omega) hacc hr' hp2 hld)
      · rw [if_neg c3] at hld
        obtain ⟨b1, b2⟩ := hr t List.mem_cons_self (by simpa using c3)
        refine Ev.neg c3 (Ev.pos b1 (Ev.pos b2 ?_))
        exact ih (j + 1) _ _ hd (by omega) (by rw [List.length_append, List.length_singleton]; omega) (by rw [List.length_set]; exact hacc) (fun q hq h3 => by rw [List.length_set]; exact hr' q hq h3) hp2 hld
theorem ThreadsFunctionsMatchSpec : q8_.Pure := by
  intro l0 l1 h0 h1
  refine Ev.rounds ?_
  unfold q8_.f
  refine Ev.bind (Run_ev l0 l1) (Ev.bind (Pending_ev l0 l1) (Ev.bind (Load_ev l0 l1) (Ev.bind threadsExample_ev ?_)))
  simp only [if_true]
  refine Ev.bind (replay_ev l0 l1) ?_
  have hf := RunV_fit l0 l1
  have hl := RunV_len l0 l1
  by_cases hz : (RunV l0 l1).2.2.1 = 0
  · refine Ev.pos hz (Ev.pos (by omega) (Ev.pos (by rw [Int.toNat_natCast]; have := hf.1; omega) ?_))
    rw [Int.toNat_natCast]
    have e1 : (PendV l0 l1).2.1 = 0 := hz
    have e2 : (LoadV l0 l1).2.1 = 0 := hz
    rw [hz, e1, e2]
    exact fun_loop _ _ hl hf.1 _ _ _ _ _ (RunV l0 l1).1 0 _ [] rfl (Nat.zero_le _) (Nat.zero_le _) (by rw [List.length_replicate]; exact hf.1) (fun t ht h3 => by rw [List.length_replicate]; exact hf.2 t ht h3) rfl rfl
  · obtain ⟨n1, n2⟩ := RunV_nil hz
    refine Ev.neg hz ?_
    have e1 : (PendV l0 l1).1 = [] := by unfold PendV; rw [n1]; rfl
    have e2 : (LoadV l0 l1).1 = [] := by unfold LoadV; rw [n1, n2]; rfl
    have t1 : ((RunV l0 l1).2.2.1 == (RunV l0 l1).2.2.1 && ((RunV l0 l1).2.2.2 == (RunV l0 l1).2.2.2)) = true := by simp
    refine Ev.pos t1 (Ev.pos t1 (Ev.pos t1 ?_))
    rw [e1, e2, n1, n2]
    exact Ev.pos rfl (Ev.pos rfl (Ev.pos rfl (Ev.now _)))
end Go.Proofs.Ytjpdcnaealdbjaa.Pure
