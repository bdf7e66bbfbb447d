/- Texts of this repo, joined: Ev, PureLines, PurePlace, PureApply, PurePlaceText, PureThreads, PureThreadsEx. -/
import Derived.Test.YtjpdcnaealdbjaaWMore
import Derived.Test.YtjpdcnaealdbjaaPThx19
import Derived.Test.YtjpdcnaealdbjaaPThx22
import Derived.Test.YtjpdcnaealdbjaaPThx21
import Derived.Test.YtjpdcnaealdbjaaTd
import Derived.Test.YtjpdcnaealdbjaaPThx30
/- Small words for the pure statements: rounds, lists from an index on. By the template tmpl/Ev.lean of this repo. -/
namespace Go.Proofs.Ytjpdcnaealdbjaa.Pu
open Go.RowKit Go.Proofs.YtjpdcnaealdbjaaW.PrintWords Go.Proofs.YtjpdcnaealdbjaaW.PrintLast

theorem Ev.succ {α : Type} {g : Nat → Option α} {r : α} (h : Ev (fun k => g (k + 1)) r) : Ev g r := by
  obtain ⟨K, h⟩ := h
  refine ⟨K + 1, fun k hk => ?_⟩
  obtain ⟨j, rfl⟩ : ∃ j, k = j + 1 := ⟨k - 1, by omega⟩
  exact h j (by omega)
theorem Ev.uniq {α : Type} {g : Nat → Option α} {r s : α} (h : Ev g r) (h' : Ev g s) : r = s := by
  obtain ⟨K, h⟩ := h
  obtain ⟨L, h'⟩ := h'
  have a := h (K + L) (by omega)
  have b := h' (K + L) (by omega)
  rw [a] at b
  exact Option.some.inj b
theorem Ev.const {α : Type} {g : Nat → Option α} {r : α} (h : ∀ k, g k = some r) : Ev g r := ⟨0, fun k _ => h k⟩
theorem Ev.ite {α : Type} {c : Prop} [Decidable c] {g f : Nat → Option α} {r : α} (h : c → Ev g r) (k : ¬ c → Ev f r) : Ev (fun n => if c then g n else f n) r := by
  by_cases hc : c
  · simp only [if_pos hc]
    exact h hc
  · simp only [if_neg hc]
    exact k hc
theorem Ev.pos {α : Type} {c : Prop} [Decidable c] {g f : Nat → Option α} {r : α} (hc : c) (h : Ev g r) : Ev (fun n => if c then g n else f n) r := by simpa only [if_pos hc] using h
theorem Ev.neg {α : Type} {c : Prop} [Decidable c] {g f : Nat → Option α} {r : α} (hc : ¬ c) (h : Ev f r) : Ev (fun n => if c then g n else f n) r := by simpa only [if_neg hc] using h
theorem Ev.ite' {α : Type} {c : Prop} [Decidable c] {g f : Nat → Option α} {r s : α} (h : c → Ev g r) (k : ¬ c → Ev f s) : Ev (fun n => if c then g n else f n) (if c then r else s) := by
  by_cases hc : c
  · simp only [if_pos hc]
    exact h hc
  · simp only [if_neg hc]
    exact k hc
theorem drop_nil_or {α : Type} (xs : List α) (j : Nat) : (xs.drop j = [] ∧ xs.length ≤ j) ∨ ∃ a, xs.drop j = a :: xs.drop (j + 1) ∧ j < xs.length ∧ ∀ d, xs.getD j d = a := by
  rcases Nat.lt_or_ge j xs.length with h | h
  · refine .inr ⟨xs[j], List.drop_eq_getElem_cons h, h, fun d => by simp [List.getD, List.getElem?_eq_getElem h]⟩
  · exact .inl ⟨List.drop_eq_nil_of_le h, h⟩
theorem drop_cons {α : Type} {xs t : List α} {j : Nat} {a : α} (h : xs.drop j = a :: t) : j < xs.length ∧ (∀ d, xs.getD j d = a) ∧ xs.drop (j + 1) = t := by
  rcases drop_nil_or xs j with ⟨h0, _⟩ | ⟨b, h1, hl, hg⟩
  · rw [h0] at h; cases h
  · rw [h1] at h
    injection h with e1 e2
    exact ⟨hl, fun d => by rw [hg, e1], e2⟩
theorem drop_nil {α : Type} {xs : List α} {j : Nat} (h : xs.drop j = []) : xs.length ≤ j := by simpa using h
theorem mem_drop {α : Type} {xs t : List α} {j : Nat} {a : α} (h : xs.drop j = a :: t) : a ∈ xs := List.mem_of_mem_drop (by rw [h]; simp)
theorem w64 {x : Int} (h0 : -9223372036854775808 ≤ x) (h1 : x ≤ 9223372036854775807) : wrap64 x = x := by unfold wrap64; omega
theorem wsucc {j : Nat} (h : j < 9223372036854775807) : wrap64 ((j : Int) + 1) = ((j + 1 : Nat) : Int) := by rw [w64 (by omega) (by omega)]; omega
theorem len_eq (b : ByteArray) : b.data.toList.length = b.size := Array.length_toList
theorem loop_eq (b : ByteArray) : ∀ (n i : Nat) (r : List UInt8), b.size - i = n → ByteArray.toList.loop b i r = r.reverse ++ b.data.toList.drop i := by
  intro n
  induction n with
  | zero =>
    intro i r h
    unfold ByteArray.toList.loop
    rw [if_neg (by omega), List.drop_eq_nil_of_le (by rw [len_eq]; omega)]
    simp
  | succ n ih =>
    intro i r h
    unfold ByteArray.toList.loop
    rw [if_pos (by omega), ih (i + 1) _ (by omega)]
    have hl : i < b.data.toList.length := by rw [len_eq]; omega
    rw [List.drop_eq_getElem_cons hl]
    have hi : i < b.data.size := by simpa using hl
    simp only [ByteArray.get!, List.reverse_cons, List.append_assoc, List.singleton_append, Array.getElem_toList]
    rw [getElem!_pos b.data i hi]
theorem toList_data (b : ByteArray) : b.toList = b.data.toList := by
  unfold ByteArray.toList
  rw [loop_eq b _ 0 [] rfl]
  simp
theorem ba_ext {a b : ByteArray} (h : a.data.toList = b.data.toList) : a = b := by
  cases a; cases b; simp_all
theorem ba_eq {a b : ByteArray} : a.toList = b.toList ↔ a = b := ⟨fun h => by
  rw [toList_data, toList_data] at h
  exact ba_ext h, fun h => by rw [h]⟩
end Go.Proofs.Ytjpdcnaealdbjaa.Pu
/- What the functions of lines and textpatch compute, in plain words: by the template tmpl/PureLines.lean of this repo. -/
namespace Go.Proofs.Ytjpdcnaealdbjaa.Pu
open Go.RowKit Go.Proofs.YtjpdcnaealdbjaaW.PrintWords Go.Proofs.YtjpdcnaealdbjaaW.PrintLast Go.Proofs.Ytjpdcnaealdbjaa.PTh
set_option linter.unusedVariables false
set_option linter.unusedSimpArgs false

theorem indexByte_mem (l : List UInt8) (c : UInt8) : (0 ≤ Lib.indexByte l c) ↔ c ∈ l := by
  induction l with
  | nil => simp [Lib.indexByte]
  | cons b t ih =>
    have hg := Lib.indexByte_ge t c
    unfold Lib.indexByte
    by_cases h : (b == c) = true
    · rw [if_pos h]
      have : b = c := by simpa using h
      subst this
      simp
    · rw [if_neg h]
      have hne : ¬ c = b := by intro e; subst e; simp at h
      simp only [List.mem_cons, hne, false_or]
      by_cases h1 : (Lib.indexByte t c == -1) = true
      · rw [if_pos h1]
        have : Lib.indexByte t c = -1 := by simpa using h1
        rw [← ih]
        omega
      · rw [if_neg h1]
        have : ¬ Lib.indexByte t c = -1 := by simpa using h1
        rw [← ih]
        omega
def lineC (s : ByteArray) : Int := if s.size > 80 then 2 else if 10 ∈ s.data.toList then 5 else 0
def linesFrom : List ByteArray → Int → Int × Int
  | [], _ => (0, 0)
  | s :: t, j => if lineC s = 0 then linesFrom t (j + 1) else (lineC s, j)
def linesV (l : List ByteArray) : Int × Int := if l.length > 120 then (2, -1) else linesFrom l 0
theorem contains_nl (s : ByteArray) : strings_ContainsRune.f s 10 = some (decide ((10 : UInt8) ∈ s.data.toList)) := by
  unfold strings_ContainsRune.f
  rw [if_pos (by omega)]
  congr 1
  rw [Bool.eq_iff_iff, decide_eq_true_iff, decide_eq_true_iff]
  exact indexByte_mem _ _
theorem lines_loop (xs : List ByteArray) (hm : xs.length ≤ 120) : ∀ (t : List ByteArray) (j : Nat), xs.drop j = t → j ≤ xs.length →
    Ev (fun k => lines_Validate.l0 k xs (xs.length : Int) (j : Int)) (linesFrom t (j : Int)) := by
  intro t
  induction t with
  | nil =>
    intro j h hj
    have := drop_nil h
    refine Ev.succ ?_
    simp only [lines_Validate.l0]
    refine Ev.neg (by omega) ?_
    exact Ev.now _
  | cons s t ih =>
    intro j h hj
    obtain ⟨hl, hg, ht⟩ := drop_cons h
    have hr : rdOf ByteArray.empty xs (j : Int) = s := by simp only [rdOf, Int.toNat_natCast]; exact hg _
    refine Ev.succ ?_
    simp only [lines_Validate.l0]
    refine Ev.pos (by omega) (Ev.pos (by omega) (Ev.pos (by omega) ?_))
    simp only [hr]
    unfold linesFrom lineC
    by_cases h1 : s.size > 80
    · refine Ev.pos (show ((s.size : Nat) : Int) > 80 by omega) ?_
      simp only [if_pos h1]
      exact Ev.now _
    · refine Ev.neg (show ¬ ((s.size : Nat) : Int) > 80 by omega) ?_
      simp only [if_neg h1, contains_nl, Option.bind_some]
      by_cases h2 : (10 : UInt8) ∈ s.data.toList
      · simp only [h2, decide_true, if_true]
        exact Ev.now _
      · simp only [h2, decide_false, Bool.false_eq_true, if_false, if_true]
        rw [wsucc (by omega)]
        have := ih (j + 1) ht (by omega)
        simpa using this
theorem lines_Validate_ev (xs : List ByteArray) : Ev (fun k => lines_Validate.f k xs) (linesV xs) := by
  unfold lines_Validate.f linesV
  by_cases h : xs.length > 120
  · rw [if_pos h]
    exact Ev.pos (by omega) (Ev.now _)
  · rw [if_neg h]
    exact Ev.neg (by omega) (lines_loop xs (by omega) xs 0 rfl (by omega))
theorem lines_Code_ev (xs : List ByteArray) : Ev (fun k => lines_Code.f k xs) (linesV xs).1 := by
  unfold lines_Code.f
  exact Ev.bind (lines_Validate_ev xs) (Ev.now _)
theorem linesV_len {xs : List ByteArray} (h : (linesV xs).1 = 0) : xs.length ≤ 120 := by
  unfold linesV at h
  by_cases hl : xs.length > 120
  · rw [if_pos hl] at h
    simp at h
  · omega

abbrev Hk := S52
def hunkC (h : Hk) (low : Int) : Int :=
  if h.f0 < 0 ∨ h.f0 > 120 then 3 else if (linesV h.f1).1 ≠ 0 then (linesV h.f1).1 else if (linesV h.f2).1 ≠ 0 then (linesV h.f2).1
  else if (h.f1.length = 0 ∧ h.f2.length = 0) ∨ h.f0 < low then 5 else if h.f0 + h.f1.length > 120 then 3 else 0
def patchFrom : List Hk → Int → Int → Int × Int
  | [], _, _ => (0, 0)
  | h :: t, low, j => if hunkC h low = 0 then patchFrom t (h.f0 + h.f1.length + 1) (j + 1) else (hunkC h low, j)
def patchV (hs : List Hk) : Int × Int := if hs.length > 130 then (2, -1) else patchFrom hs 0 0
theorem End_eq (h : Hk) (h0 : 0 ≤ h.f0) (h1 : h.f0 ≤ 120) (h2 : h.f1.length ≤ 120) : textpatch_End.f h.f0 h.f1 h.f2 = some (h.f0 + h.f1.length) := by
  unfold textpatch_End.f
  rw [w64 (by omega) (by omega)]
theorem hunk_j1 (h : Hk) (b : Bool) (h0 : 0 ≤ h.f0) (h1 : h.f0 ≤ 120) (h2 : h.f1.length ≤ 120) :
    Ev (fun k => textpatch_hunkCode.j1 k b h.f0 h.f1 h.f2) (if b = true then 5 else if h.f0 + h.f1.length > 120 then 3 else 0) := by
  refine Ev.succ ?_
  simp only [textpatch_hunkCode.j1]
  by_cases hb : b = true
  · simp only [if_pos hb]
    exact Ev.now _
  · simp only [if_neg hb, End_eq h h0 h1 h2, Option.bind_some]
    by_cases h3 : h.f0 + h.f1.length > 120
    · simp only [if_pos h3]
      exact Ev.now _
    · simp only [if_neg h3]
      exact Ev.now _
theorem hunk_j0 (h : Hk) (low : Int) (b : Bool) (hb : b = decide (h.f0 < 0 ∨ h.f0 > 120)) : Ev (fun k => textpatch_hunkCode.j0 k low b h.f0 h.f1 h.f2) (hunkC h low) := by
  refine Ev.succ ?_
  simp only [textpatch_hunkCode.j0]
  unfold hunkC
  by_cases h0 : h.f0 < 0 ∨ h.f0 > 120
  · simp only [hb, h0, decide_true, if_true]
    exact Ev.now _
  · simp only [hb, h0, decide_false, Bool.false_eq_true, if_false]
    refine Ev.bind (lines_Code_ev h.f1) ?_
    by_cases h1 : (linesV h.f1).1 = 0
    · have hl1 := linesV_len h1
      simp only [h1, if_true, ne_eq, not_true_eq_false, if_false]
      refine Ev.bind (lines_Code_ev h.f2) ?_
      by_cases h2 : (linesV h.f2).1 = 0
      · simp only [h2, if_true, ne_eq, not_true_eq_false, if_false]
        by_cases a : h.f1.length = 0
        · refine Ev.pos (show ((h.f1.length : Nat) : Int) = 0 by omega) ?_
          by_cases b : h.f2.length = 0
          · refine Ev.pos (show ((h.f2.length : Nat) : Int) = 0 by omega) ?_
            have := hunk_j1 h true (by omega) (by omega) hl1
            simpa only [a, b, and_self, true_or, if_true] using this
          · refine Ev.neg (show ¬ ((h.f2.length : Nat) : Int) = 0 by omega) ?_
            have := hunk_j1 h (decide (h.f0 < low)) (by omega) (by omega) hl1
            simpa only [decide_eq_true_eq, b, and_false, false_or] using this
        · refine Ev.neg (show ¬ ((h.f1.length : Nat) : Int) = 0 by omega) ?_
          have := hunk_j1 h (decide (h.f0 < low)) (by omega) (by omega) hl1
          simpa only [decide_eq_true_eq, a, false_and, false_or] using this
      · simp only [h2, if_false, ne_eq, not_false_eq_true, if_true]
        exact Ev.bind (lines_Code_ev h.f2) (Ev.now _)
    · simp only [h1, if_false, ne_eq, not_false_eq_true, if_true]
      exact Ev.bind (lines_Code_ev h.f1) (Ev.now _)
theorem hunkCode_ev (h : Hk) (low : Int) : Ev (fun k => textpatch_hunkCode.f k h.f0 h.f1 h.f2 low) (hunkC h low) := by
  unfold textpatch_hunkCode.f
  by_cases h0 : h.f0 < 0
  · simp only [if_pos h0]
    exact hunk_j0 h low true (by simp [h0])
  · simp only [if_neg h0]
    exact hunk_j0 h low _ (by simp [h0])
theorem hunkC_ok {h : Hk} {low : Int} (hc : hunkC h low = 0) : 0 ≤ h.f0 ∧ h.f0 ≤ 120 ∧ (linesV h.f1).1 = 0 ∧ (linesV h.f2).1 = 0 ∧ ¬ (h.f1.length = 0 ∧ h.f2.length = 0) ∧ low ≤ h.f0 ∧ h.f0 + h.f1.length ≤ 120 := by
  unfold hunkC at hc
  by_cases h0 : h.f0 < 0 ∨ h.f0 > 120
  · rw [if_pos h0] at hc; simp at hc
  rw [if_neg h0] at hc
  by_cases h1 : (linesV h.f1).1 ≠ 0
  · rw [if_pos h1] at hc; exact absurd hc h1
  rw [if_neg h1] at hc
  by_cases h2 : (linesV h.f2).1 ≠ 0
  · rw [if_pos h2] at hc; exact absurd hc h2
  rw [if_neg h2] at hc
  by_cases h3 : (h.f1.length = 0 ∧ h.f2.length = 0) ∨ h.f0 < low
  · rw [if_pos h3] at hc; simp at hc
  rw [if_neg h3] at hc
  by_cases h4 : h.f0 + h.f1.length > 120
  · rw [if_pos h4] at hc; simp at hc
  have h1' : (linesV h.f1).1 = 0 := Decidable.not_not.1 h1
  have h2' : (linesV h.f2).1 = 0 := Decidable.not_not.1 h2
  exact ⟨by omega, by omega, h1', h2', fun e => h3 (.inl e), by omega, by omega⟩
theorem rd_hunk {xs : List Hk} {j : Nat} {h : Hk} (hg : ∀ d, xs.getD j d = h) : rd_T52 xs (j : Int) = h := by
  unfold rd_T52
  rw [Int.toNat_natCast]
  exact hg _
theorem patch_loop (xs : List Hk) (hm : xs.length ≤ 130) : ∀ (t : List Hk) (j : Nat) (low : Int), xs.drop j = t → j ≤ xs.length →
    Ev (fun k => textpatch_Validate.l0 k low xs (xs.length : Int) (j : Int)) (patchFrom t low (j : Int)) := by
  intro t
  induction t with
  | nil =>
    intro j low h hj
    have := drop_nil h
    refine Ev.succ ?_
    simp only [textpatch_Validate.l0]
    refine Ev.neg (by omega) ?_
    exact Ev.now _
  | cons s t ih =>
    intro j low h hj
    obtain ⟨hl, hg, ht⟩ := drop_cons h
    have hr := rd_hunk hg
    refine Ev.succ ?_
    simp only [textpatch_Validate.l0]
    refine Ev.pos (by omega) (Ev.pos (by omega) (Ev.pos (by omega) ?_))
    simp only [hr]
    refine Ev.bind (hunkCode_ev s low) ?_
    unfold patchFrom
    by_cases h1 : hunkC s low = 0
    · obtain ⟨a, b, c, _, _, _, d⟩ := hunkC_ok h1
      simp only [if_pos h1, End_eq s a b (linesV_len c), Option.bind_some]
      rw [w64 (by omega) (by omega), wsucc (by omega)]
      have := ih (j + 1) (s.f0 + s.f1.length + 1) ht (by omega)
      simpa using this
    · simp only [if_neg h1]
      exact Ev.now _
theorem patch_Validate_ev (hs : List Hk) : Ev (fun k => textpatch_Validate.f k hs) (patchV hs) := by
  unfold textpatch_Validate.f patchV
  by_cases h : hs.length > 130
  · rw [if_pos h]
    exact Ev.pos (by omega) (Ev.now _)
  · rw [if_neg h]
    exact Ev.neg (by omega) (patch_loop hs (by omega) hs 0 0 rfl (by omega))
/-- A valid list of hunks, the first one at 'low' or later. -/
def Valid : Int → List Hk → Prop
  | _, [] => True
  | low, h :: t => 0 ≤ h.f0 ∧ h.f0 ≤ 120 ∧ (linesV h.f1).1 = 0 ∧ (linesV h.f2).1 = 0 ∧ ¬ (h.f1.length = 0 ∧ h.f2.length = 0) ∧ low ≤ h.f0 ∧ h.f0 + h.f1.length ≤ 120 ∧ Valid (h.f0 + h.f1.length + 1) t
theorem hunkC_zero {h : Hk} {low : Int} (hv : 0 ≤ h.f0 ∧ h.f0 ≤ 120 ∧ (linesV h.f1).1 = 0 ∧ (linesV h.f2).1 = 0 ∧ ¬ (h.f1.length = 0 ∧ h.f2.length = 0) ∧ low ≤ h.f0 ∧ h.f0 + h.f1.length ≤ 120) : hunkC h low = 0 := by
  obtain ⟨a, b, c, d, e, f, g⟩ := hv
  unfold hunkC
  rw [if_neg (by omega), if_neg (by simp [c]), if_neg (by simp [d]), if_neg (by omega), if_neg (by omega)]
theorem patchFrom_valid : ∀ (t : List Hk) (low j : Int), (patchFrom t low j).1 = 0 ↔ Valid low t
  | [], low, j => by simp [patchFrom, Valid]
  | h :: t, low, j => by
    unfold patchFrom Valid
    by_cases hc : hunkC h low = 0
    · rw [if_pos hc, patchFrom_valid t _ _]
      obtain ⟨a, b, c, d, e, f, g⟩ := hunkC_ok hc
      exact ⟨fun hv => ⟨a, b, c, d, e, f, g, hv⟩, fun hv => hv.2.2.2.2.2.2.2⟩
    · rw [if_neg hc]
      exact ⟨fun e => absurd e hc, fun ⟨a, b, c, d, e, f, g, _⟩ => absurd (hunkC_zero ⟨a, b, c, d, e, f, g⟩) hc⟩
theorem patchFrom_zero : ∀ (t : List Hk) (low j : Int), (patchFrom t low j).1 = 0 → patchFrom t low j = (0, 0)
  | [], low, j => fun _ => by simp [patchFrom]
  | h :: t, low, j => by
    unfold patchFrom
    by_cases hc : hunkC h low = 0
    · rw [if_pos hc]
      exact patchFrom_zero t _ _
    · rw [if_neg hc]
      exact fun e => absurd e hc
theorem patchV_zero {hs : List Hk} (h : (patchV hs).1 = 0) : patchV hs = (0, 0) ∧ hs.length ≤ 130 ∧ Valid 0 hs := by
  unfold patchV at h ⊢
  by_cases hl : hs.length > 130
  · rw [if_pos hl] at h
    simp at h
  · rw [if_neg hl] at h ⊢
    exact ⟨patchFrom_zero _ _ _ h, by omega, (patchFrom_valid _ _ _).1 h⟩
theorem patchV_of {hs : List Hk} (hl : hs.length ≤ 130) (hv : Valid 0 hs) : patchV hs = (0, 0) := by
  unfold patchV
  rw [if_neg (by omega)]
  exact patchFrom_zero _ _ _ ((patchFrom_valid _ _ _).2 hv)
theorem patchFrom_code : ∀ (t : List Hk) (low j : Int), 0 ≤ j → (patchFrom t low j).1 = 0 ∨ 0 ≤ (patchFrom t low j).2
  | [], low, j, _ => by simp [patchFrom]
  | h :: t, low, j, hj => by
    unfold patchFrom
    by_cases hc : hunkC h low = 0
    · rw [if_pos hc]
      exact patchFrom_code t _ _ (by omega)
    · rw [if_neg hc]
      exact .inr hj
theorem isZero_iff (p : Int × Int) : ((p.1 == 0 && (p.2 == 0)) = true) ↔ p = (0, 0) := by
  obtain ⟨a, b⟩ := p
  simp
/-- A fault is none just where its code is 0. -/
theorem patchV_test (hs : List Hk) : (((patchV hs).1 == 0 && ((patchV hs).2 == 0)) = true) ↔ (patchV hs).1 = 0 := by
  rw [isZero_iff]
  exact ⟨fun h => by rw [h], fun h => (patchV_zero h).1⟩
end Go.Proofs.Ytjpdcnaealdbjaa.Pu
/- What the functions of anchor compute, in plain words: by the template tmpl/PurePlace.lean of this repo. -/
namespace Go.Proofs.Ytjpdcnaealdbjaa.Pu
open Go.RowKit Go.Proofs.YtjpdcnaealdbjaaW.PrintWords Go.Proofs.YtjpdcnaealdbjaaW.PrintLast Go.Proofs.Ytjpdcnaealdbjaa.PTh
set_option linter.unusedVariables false
set_option linter.unusedSimpArgs false

/-- Where a line comes to, what was in front having moved by 'shift'. -/
def place : List Hk → Int → Int → Int × Bool
  | [], line, shift => (line + shift, true)
  | h :: t, line, shift => if line < h.f0 then (line + shift, true) else if line < h.f0 + h.f1.length then (h.f0 + shift, false) else place t line (shift + (h.f2.length - h.f1.length))
theorem place_loop (xs : List Hk) (hm : xs.length ≤ 130) (line : Int) (l0 : -1000000000 ≤ line) (l1 : line ≤ 1000000000) : ∀ (t : List Hk) (j : Nat) (shift low : Int), xs.drop j = t → j ≤ xs.length → Valid low t →
    -(1000 * (j : Int)) ≤ shift → shift ≤ 1000 * (j : Int) →
    Ev (fun k => anchor_Place.l0 k line shift xs (xs.length : Int) (j : Int)) (place t line shift) := by
  intro t
  induction t with
  | nil =>
    intro j shift low h hj _ s0 s1
    have := drop_nil h
    refine Ev.succ ?_
    simp only [anchor_Place.l0]
    refine Ev.neg (by omega) ?_
    rw [w64 (by omega) (by omega)]
    exact Ev.now _
  | cons s t ih =>
    intro j shift low h hj hv s0 s1
    obtain ⟨hl, hg, ht⟩ := drop_cons h
    have hr := rd_hunk hg
    obtain ⟨a, b, c, d, _, _, e, hv'⟩ := hv
    have c' := linesV_len c
    have d' := linesV_len d
    refine Ev.succ ?_
    simp only [anchor_Place.l0]
    refine Ev.pos (by omega) (Ev.pos (by omega) (Ev.pos (by omega) ?_))
    simp only [hr]
    unfold place
    by_cases h1 : line < s.f0
    · rw [if_pos h1]
      refine Ev.pos h1 ?_
      rw [w64 (by omega) (by omega)]
      exact Ev.now _
    · rw [if_neg h1]
      refine Ev.neg h1 ?_
      simp only [End_eq s a b c', Option.bind_some]
      by_cases h2 : line < s.f0 + s.f1.length
      · rw [if_pos h2]
        refine Ev.pos h2 ?_
        rw [w64 (by omega) (by omega)]
        exact Ev.now _
      · rw [if_neg h2]
        refine Ev.neg h2 ?_
        have e1 : wrap64 ((s.f2.length : Int) - (s.f1.length : Int)) = (s.f2.length : Int) - (s.f1.length : Int) := w64 (by omega) (by omega)
        rw [e1, w64 (x := shift + _) (by omega) (by omega), wsucc (by omega)]
        exact ih (j + 1) _ _ ht (by omega) hv' (by omega) (by omega)
theorem Place_ev {hs : List Hk} (hm : hs.length ≤ 130) (hv : Valid 0 hs) (line : Int) (l0 : -1000000000 ≤ line) (l1 : line ≤ 1000000000) : Ev (fun k => anchor_Place.f k hs line) (place hs line 0) := by
  unfold anchor_Place.f
  exact place_loop hs hm line l0 l1 hs 0 0 0 rfl (by omega) hv (by omega) (by omega)
theorem place_bounds : ∀ (t : List Hk) (line shift low : Int), Valid low t → 0 ≤ line → -(1000 * (t.length : Int)) ≤ (place t line shift).1 - shift ∧ (place t line shift).1 - shift ≤ line + 120 + 1000 * (t.length : Int)
  | [], line, shift, low, _, h0 => by simp only [place, List.length_nil]; omega
  | h :: t, line, shift, low, hv, h0 => by
    obtain ⟨a, b, c, d, _, _, e, hv'⟩ := hv
    have c' := linesV_len c
    have d' := linesV_len d
    have ih := place_bounds t line (shift + (h.f2.length - h.f1.length)) _ hv' h0
    simp only [List.length_cons]
    unfold place
    by_cases h1 : line < h.f0
    · rw [if_pos h1]
      show _ ≤ line + shift - shift ∧ line + shift - shift ≤ _
      omega
    · rw [if_neg h1]
      by_cases h2 : line < h.f0 + h.f1.length
      · rw [if_pos h2]
        show _ ≤ h.f0 + shift - shift ∧ h.f0 + shift - shift ≤ _
        omega
      · rw [if_neg h2]
        omega
/-- Lines behind a point stay behind its place. -/
theorem place_ge : ∀ (t : List Hk) (line shift b : Int), Valid b t → b ≤ line + 1 → (place t line shift).2 = true → b + shift ≤ (place t line shift).1 + 1
  | [], line, shift, b, _, hb, _ => by simp only [place]; omega
  | h :: t, line, shift, b, hv, hb, hk => by
    obtain ⟨_, _, _, _, _, f, _, hv'⟩ := hv
    unfold place at hk ⊢
    by_cases h1 : line < h.f0
    · rw [if_pos h1]
      show b + shift ≤ line + shift + 1
      omega
    · rw [if_neg h1] at hk ⊢
      by_cases h2 : line < h.f0 + h.f1.length
      · rw [if_pos h2] at hk
        simp at hk
      · rw [if_neg h2] at hk ⊢
        have := place_ge t line (shift + (h.f2.length - h.f1.length)) (h.f0 + h.f1.length + 1) hv' (by omega) hk
        omega
theorem Valid_mono {t : List Hk} {a b : Int} (hab : a ≤ b) (h : Valid b t) : Valid a t := by
  cases t with
  | nil => trivial
  | cons h t => obtain ⟨a1, a2, a3, a4, a5, a6, a7, a8⟩ := h; exact ⟨a1, a2, a3, a4, a5, by omega, a7, a8⟩
end Go.Proofs.Ytjpdcnaealdbjaa.Pu
/- Applying a patch, in plain words: by the template tmpl/PureApply.lean of this repo. -/
namespace Go.Proofs.Ytjpdcnaealdbjaa.Pu
open Go.RowKit Go.Proofs.YtjpdcnaealdbjaaW.PrintWords Go.Proofs.YtjpdcnaealdbjaaW.PrintLast Go.Proofs.Ytjpdcnaealdbjaa.PTh
set_option linter.unusedVariables false
set_option linter.unusedSimpArgs false

theorem rdS {xs : List ByteArray} {j : Nat} {a : ByteArray} (hg : ∀ d, xs.getD j d = a) : rdOf ByteArray.empty xs (j : Int) = a := by
  simp only [rdOf, Int.toNat_natCast]
  exact hg _
theorem equal_loop (a b : List ByteArray) (hl : a.length = b.length) (hm : a.length < 9223372036854775807) : ∀ (t : List ByteArray) (j : Nat), a.drop j = t → j ≤ a.length → a.take j = b.take j →
    Ev (fun k => slices_Equal_string_string.l0 k a b (a.length : Int) (j : Int)) (decide (a = b)) := by
  intro t
  induction t with
  | nil =>
    intro j h hj he
    have := drop_nil h
    refine Ev.succ ?_
    simp only [slices_Equal_string_string.l0]
    refine Ev.neg (by omega) ?_
    rw [List.take_of_length_le (by omega), List.take_of_length_le (by omega)] at he
    simp only [he, decide_true]
    exact Ev.now _
  | cons s t ih =>
    intro j h hj he
    obtain ⟨hlt, hg, ht⟩ := drop_cons h
    refine Ev.succ ?_
    simp only [slices_Equal_string_string.l0]
    refine Ev.pos (by omega) (Ev.pos (by omega) (Ev.pos (by omega) (Ev.pos (by omega) ?_)))
    have hlb : j < b.length := by omega
    have ra := rdS hg
    have rb : rdOf ByteArray.empty b (j : Int) = b[j] := rdS (fun d => by simp [List.getD, List.getElem?_eq_getElem hlb])
    have ga : a[j] = s := by have := hg s; simpa [List.getD, List.getElem?_eq_getElem hlt] using this
    rw [ra, rb]
    by_cases hs : s.toList = b[j].toList
    · refine Ev.pos hs ?_
      rw [wsucc (by omega)]
      refine ih (j + 1) ht (by omega) ?_
      rw [List.take_succ_eq_append_getElem hlt, List.take_succ_eq_append_getElem hlb, he, ga, ba_eq.1 hs]
    · refine Ev.neg hs ?_
      have hne : ¬ a = b := by
        intro e
        subst e
        exact hs (by rw [ga])
      simp only [hne, decide_false]
      exact Ev.now _
theorem Equal_ev (a b : List ByteArray) (hm : a.length < 9223372036854775807) : Ev (fun k => slices_Equal_string_string.f k a b) (decide (a = b)) := by
  unfold slices_Equal_string_string.f
  by_cases h : a.length = b.length
  · refine Ev.pos (by omega) ?_
    exact equal_loop a b h hm a 0 rfl (by omega) rfl
  · refine Ev.neg (by omega) ?_
    have hne : ¬ a = b := fun e => h (by rw [e])
    simp only [hne, decide_false]
    exact Ev.now _
/-- The text behind the hunks, from line 'at' on; 'j': the number of the next hunk. -/
def applyFrom (text : List ByteArray) : List Hk → Nat → List ByteArray → Int → List ByteArray × Int × Int
  | [], p, acc, _ => if (acc ++ text.drop p).length > 120 then ([], 10, -1) else (acc ++ text.drop p, 0, 0)
  | h :: t, p, acc, j => if h.f0 + h.f1.length ≤ text.length ∧ (text.take (h.f0.toNat + h.f1.length)).drop h.f0.toNat = h.f1 then
      applyFrom text t (h.f0.toNat + h.f1.length) (acc ++ (text.take h.f0.toNat).drop p ++ h.f2) (j + 1) else ([], 19, j)
def applyV (hs : List Hk) (text : List ByteArray) : List ByteArray × Int × Int :=
  if (patchV hs).1 = 0 then (if (linesV text).1 = 0 then applyFrom text hs 0 [] 0 else ([], (linesV text).1, -2)) else ([], (patchV hs).1, (patchV hs).2)
theorem apply_loop (text : List ByteArray) (hx : text.length ≤ 120) (xs : List Hk) (hm : xs.length ≤ 130) : ∀ (t : List Hk) (j p : Nat) (acc : List ByteArray), xs.drop j = t → j ≤ xs.length → Valid (p : Int) t →
    p ≤ text.length + 1 → (t = [] → p ≤ text.length) → p ≤ text.length → acc.length ≤ 300 * j →
    Ev (fun k => textpatch_Apply.l0 k text acc (p : Int) xs (xs.length : Int) (j : Int)) (applyFrom text t p acc (j : Int)) := by
  intro t
  induction t with
  | nil =>
    intro j p acc h hj _ _ _ hp ha
    have := drop_nil h
    refine Ev.succ ?_
    simp only [textpatch_Apply.l0]
    have hl : (text.drop p).length ≤ 120 := by rw [List.length_drop]; omega
    refine Ev.neg (by omega) (Ev.pos (by omega) (Ev.pos (by omega) ?_))
    simp only [Int.toNat_natCast, Option.bind_some]
    refine Ev.pos (by omega) ?_
    unfold applyFrom
    by_cases h1 : (acc ++ text.drop p).length > 120
    · rw [if_pos h1]
      exact Ev.pos (by omega) (Ev.now _)
    · rw [if_neg h1]
      exact Ev.neg (by omega) (Ev.now _)
  | cons s t ih =>
    intro j p acc h hj hv _ _ hp ha
    obtain ⟨hl, hg, ht⟩ := drop_cons h
    have hr := rd_hunk hg
    obtain ⟨a, b, c, d, _, f, e, hv'⟩ := hv
    have c' := linesV_len c
    have d' := linesV_len d
    have hE := End_eq s a b c'
    refine Ev.succ ?_
    simp only [textpatch_Apply.l0]
    refine Ev.pos (by omega) (Ev.pos (by omega) (Ev.pos (by omega) ?_))
    simp only [hr, hE, Option.bind_some]
    unfold applyFrom
    by_cases h1 : s.f0 + s.f1.length ≤ text.length
    · refine Ev.neg (by omega) (Ev.pos a (Ev.pos (by omega) (Ev.pos (by omega) ?_)))
      have e1 : (s.f0 + (s.f1.length : Int)).toNat = s.f0.toNat + s.f1.length := by omega
      rw [e1]
      refine Ev.bind (Equal_ev _ _ (by rw [List.length_drop, List.length_take]; omega)) ?_
      by_cases h2 : (text.take (s.f0.toNat + s.f1.length)).drop s.f0.toNat = s.f1
      · simp only [h2, decide_true, if_true, and_true]
        rw [if_pos h1]
        have hl1 : ((text.take s.f0.toNat).drop p).length ≤ 120 := by rw [List.length_drop, List.length_take]; omega
        refine Ev.pos (by omega) (Ev.pos (by omega) (Ev.pos (by omega) ?_))
        simp only [Int.toNat_natCast]
        refine Ev.pos (by omega) (Ev.pos (by rw [List.length_append]; omega) ?_)
        rw [wsucc (by omega), show s.f0 + (s.f1.length : Int) = ((s.f0.toNat + s.f1.length : Nat) : Int) by omega]
        have := ih (j + 1) (s.f0.toNat + s.f1.length) (acc ++ (text.take s.f0.toNat).drop p ++ s.f2) ht (by omega) (by
            have hv2 := hv'
            cases t with
            | nil => trivial
            | cons q t => obtain ⟨z1, z2, z3, z4, z5, z6, z7, z8⟩ := hv2; exact ⟨z1, z2, z3, z4, z5, by omega, z7, z8⟩) (by omega) (fun _ => by omega) (by omega) (by simp only [List.length_append]; omega)
        simpa using this
      · simp only [h2, decide_false, Bool.false_eq_true, if_false, and_false]
        exact Ev.now _
    · rw [if_neg (fun z => h1 z.1)]
      exact Ev.pos (by omega) (Ev.now _)
theorem Apply_ev (hs : List Hk) (text : List ByteArray) : Ev (fun k => textpatch_Apply.f k hs text) (applyV hs text) := by
  unfold textpatch_Apply.f applyV
  refine Ev.bind (patch_Validate_ev hs) ?_
  by_cases hz : (patchV hs).1 = 0
  · rw [if_pos hz]
    obtain ⟨_, hm, hv⟩ := patchV_zero hz
    refine Ev.pos ((patchV_test hs).2 hz) ?_
    refine Ev.bind (lines_Code_ev text) ?_
    by_cases h1 : (linesV text).1 = 0
    · simp only [h1, if_true]
      exact apply_loop text (linesV_len h1) hs hm hs 0 0 [] rfl (by omega) hv (by omega) (fun _ => by omega) (by omega) (by simp)
    · simp only [h1, if_false]
      exact Ev.now _
  · rw [if_neg hz]
    exact Ev.neg (fun e => hz ((patchV_test hs).1 e)) (Ev.now _)
/-- What the new text is, from line p of the old one on. -/
def outF (text : List ByteArray) : List Hk → Nat → List ByteArray
  | [], p => text.drop p
  | h :: t, p => (text.take h.f0.toNat).drop p ++ h.f2 ++ outF text t (h.f0.toNat + h.f1.length)
theorem applyFrom_out (text : List ByteArray) : ∀ (t : List Hk) (p : Nat) (acc : List ByteArray) (j : Int), (applyFrom text t p acc j).2.1 = 0 →
    applyFrom text t p acc j = (acc ++ outF text t p, 0, 0) ∧ (acc ++ outF text t p).length ≤ 120 ∧ (∀ h ∈ t, h.f0 + h.f1.length ≤ text.length)
  | [], p, acc, j, hz => by
    unfold applyFrom at hz ⊢
    by_cases h1 : (acc ++ text.drop p).length > 120
    · rw [if_pos h1] at hz; simp at hz
    · rw [if_neg h1]
      exact ⟨rfl, by unfold outF; omega, by simp⟩
  | h :: t, p, acc, j, hz => by
    unfold applyFrom at hz ⊢
    by_cases h1 : h.f0 + h.f1.length ≤ text.length ∧ (text.take (h.f0.toNat + h.f1.length)).drop h.f0.toNat = h.f1
    · rw [if_pos h1] at hz ⊢
      obtain ⟨e, hl, ha⟩ := applyFrom_out text t _ _ _ hz
      unfold outF
      refine ⟨by rw [e]; simp, by simpa using hl, fun q hq => ?_⟩
      rcases List.mem_cons.1 hq with rfl | hq
      · exact h1.1
      · exact ha q hq
    · rw [if_neg h1] at hz
      simp at hz
theorem applyV_ok {hs : List Hk} {text : List ByteArray} (h : (applyV hs text).2.1 = 0) : (patchV hs).1 = 0 ∧ (linesV text).1 = 0 ∧ applyV hs text = (outF text hs 0, 0, 0) ∧ (outF text hs 0).length ≤ 120 ∧ (∀ q ∈ hs, q.f0 + q.f1.length ≤ text.length) := by
  unfold applyV at h ⊢
  by_cases h1 : (patchV hs).1 = 0
  · rw [if_pos h1] at h ⊢
    by_cases h2 : (linesV text).1 = 0
    · rw [if_pos h2] at h ⊢
      obtain ⟨e, hl, ha⟩ := applyFrom_out text hs 0 [] 0 h
      exact ⟨h1, h2, by simpa using e, by simpa using hl, ha⟩
    · rw [if_neg h2] at h
      exact absurd h h2
  · rw [if_neg h1] at h
    exact absurd h h1
end Go.Proofs.Ytjpdcnaealdbjaa.Pu
/- Kept, and what a kept line's contents are, in plain words: by the template tmpl/PurePlaceText.lean of this repo. -/
namespace Go.Proofs.Ytjpdcnaealdbjaa.Pu
open Go.RowKit Go.Proofs.YtjpdcnaealdbjaaW.PrintWords Go.Proofs.YtjpdcnaealdbjaaW.PrintLast Go.Proofs.Ytjpdcnaealdbjaa.PTh
set_option linter.unusedVariables false
set_option linter.unusedSimpArgs false

/-- Of two kept lines the later one comes later. -/
theorem place_mono : ∀ (t : List Hk) (i k shift b : Int), Valid b t → i < k → (place t i shift).2 = true → (place t k shift).2 = true → (place t i shift).1 < (place t k shift).1
  | [], i, k, shift, b, _, h, _, _ => by simp only [place]; omega
  | h :: t, i, k, shift, b, hv, hik, hi, hk => by
    obtain ⟨_, _, _, _, _, f, _, hv'⟩ := hv
    unfold place at hi hk ⊢
    by_cases c1 : i < h.f0
    · rw [if_pos c1]
      by_cases c2 : k < h.f0
      · rw [if_pos c2]; show i + shift < k + shift; omega
      · rw [if_neg c2] at hk ⊢
        by_cases c3 : k < h.f0 + h.f1.length
        · rw [if_pos c3] at hk; simp at hk
        · rw [if_neg c3] at hk ⊢
          have := place_ge t k (shift + (h.f2.length - h.f1.length)) (h.f0 + h.f1.length + 1) hv' (by omega) hk
          show i + shift < _
          omega
    · rw [if_neg c1] at hi ⊢
      by_cases c4 : i < h.f0 + h.f1.length
      · rw [if_pos c4] at hi; simp at hi
      · rw [if_neg c4] at hi ⊢
        rw [if_neg (by omega), if_neg (by omega)] at hk ⊢
        exact place_mono t i k _ _ hv' hik hi hk
theorem Valid_natmono {t : List Hk} {a b : Int} (hab : a ≤ b) (h : Valid b t) : Valid a t := Valid_mono hab h
/-- A kept line has the same contents at its new place. -/
theorem place_text (text : List ByteArray) : ∀ (t : List Hk) (p i : Nat) (shift : Int), Valid (p : Int) t → (∀ h ∈ t, h.f0 + h.f1.length ≤ text.length) → p ≤ i → i < text.length → (place t (i : Int) shift).2 = true →
    ∃ q : Nat, (place t (i : Int) shift).1 = q + shift + p ∧ (outF text t p)[q]? = text[i]?
  | [], p, i, shift, _, _, hp, hi, _ => ⟨i - p, by simp only [place]; omega, by simp only [outF, List.getElem?_drop]; congr 1; omega⟩
  | h :: t, p, i, shift, hv, ha, hp, hi, hk => by
    obtain ⟨a, _, _, _, _, f, _, hv'⟩ := hv
    have hh := ha h (by simp)
    unfold place at hk ⊢
    unfold outF
    have hl1 : ((text.take h.f0.toNat).drop p).length = h.f0.toNat - p := by rw [List.length_drop, List.length_take]; omega
    by_cases c1 : (i : Int) < h.f0
    · rw [if_pos c1]
      refine ⟨i - p, by show (i : Int) + shift = _; omega, ?_⟩
      rw [List.append_assoc, List.getElem?_append_left (by omega), List.getElem?_drop, List.getElem?_take_of_lt (by omega)]
      congr 1
      omega
    · rw [if_neg c1] at hk ⊢
      by_cases c2 : (i : Int) < h.f0 + h.f1.length
      · rw [if_pos c2] at hk; simp at hk
      · rw [if_neg c2] at hk ⊢
        obtain ⟨q, hq, ht⟩ := place_text text t (h.f0.toNat + h.f1.length) i (shift + (h.f2.length - h.f1.length)) (Valid_mono (by omega) hv') (fun g hg => ha g (by simp [hg])) (by omega) hi hk
        refine ⟨(h.f0.toNat - p) + h.f2.length + q, by rw [hq]; omega, ?_⟩
        rw [List.getElem?_append_right (by rw [List.length_append]; omega)]
        rw [← ht]
        congr 1
        rw [List.length_append]
        omega
end Go.Proofs.Ytjpdcnaealdbjaa.Pu
/- What the review of threads computes, in plain words: by the template tmpl/PureThreads.lean of this repo. -/
namespace Go.Proofs.Ytjpdcnaealdbjaa.Pu
open Go.RowKit Go.Proofs.YtjpdcnaealdbjaaW.PrintWords Go.Proofs.YtjpdcnaealdbjaaW.PrintLast Go.Proofs.Ytjpdcnaealdbjaa.PTh
set_option linter.unusedVariables false
set_option linter.unusedSimpArgs false

def codeV (s : ByteArray) : Int := if s.toList = ([] : List UInt8) then 5 else (linesV [s]).1
theorem textCode_ev (s : ByteArray) : Ev (fun k => threads_textCode.f k s) (codeV s) := by
  unfold threads_textCode.f codeV
  by_cases h : s.toList = ([] : List UInt8)
  · rw [if_pos h]
    exact Ev.pos h (Ev.now _)
  · rw [if_neg h]
    exact Ev.neg h (Ev.bind (lines_Code_ev [s]) (Ev.now _))
def unusedV (e : S43) : Bool := (threads_unused.f e.f0 e.f1 e.f2 e.f3 e.f4 e.f5.f0).getD true
theorem unused_eq (e : S43) : threads_unused.f e.f0 e.f1 e.f2 e.f3 e.f4 e.f5.f0 = some (unusedV e) := by
  unfold unusedV threads_unused.f
  repeat' first
    | rfl
    | split
/-- The review's invariant. -/
def Fit (text : List ByteArray) (ths : List S34) : Prop := text.length ≤ 120 ∧ ∀ t ∈ ths, t.f3 = false → 0 ≤ t.f1 ∧ t.f1 < text.length
def mv (p : List S52) (t : S34) : S34 := if t.f3 = true then t else (if (place p t.f1 0).2 = true then ⟨t.f0, (place p t.f1 0).1, t.f2, t.f3, t.f4⟩ else ⟨t.f0, t.f1, t.f2, true, t.f4⟩)
theorem move_ev {p : List S52} (hm : p.length ≤ 130) (hv : Valid 0 p) : ∀ (ths : List S34), (∀ t ∈ ths, t.f3 = false → 0 ≤ t.f1 ∧ t.f1 ≤ 120) → Ev (fun k => rvMove k p ths) (ths.map (mv p))
  | [], _ => Ev.now _
  | t :: ts, ha => by
    have ih := move_ev hm hv ts (fun q hq => ha q (List.mem_cons_of_mem _ hq))
    simp only [rvMove, List.map_cons]
    by_cases h : t.f3 = true
    · refine Ev.pos h (Ev.bind ih ?_)
      have e : mv p t = t := by unfold mv; rw [if_pos h]
      rw [e]
      exact Ev.now _
    · have hb := ha t (List.mem_cons_self) (by simpa using h)
      refine Ev.neg h (Ev.bind (Place_ev hm hv t.f1 (by omega) (by omega)) (Ev.bind ih ?_))
      have e : mv p t = (if (place p t.f1 0).2 = true then (⟨t.f0, (place p t.f1 0).1, t.f2, t.f3, t.f4⟩ : S34) else ⟨t.f0, t.f1, t.f2, true, t.f4⟩) := by unfold mv; rw [if_neg h]
      rw [e]
      exact Ev.now _
def openV (text : List ByteArray) (ths : List S34) (us ln : Int) (tx : ByteArray) : List S34 × Int :=
  if codeV tx = 0 then (if ln < 0 then (ths, 3) else (if (text.length : Int) ≤ ln then (ths, 3) else (if (12 : Int) ≤ (ths.length : Int) then (ths, 14) else (ths ++ [⟨us, ln, 1, false, false⟩], 0)))) else (ths, codeV tx)
theorem open_ev (text : List ByteArray) (ths : List S34) (us ln : Int) (tx : ByteArray) : Ev (fun k => rvOpen k text ths us ln tx) (openV text ths us ln tx) := by
  unfold rvOpen openV
  refine Ev.bind (textCode_ev tx) ?_
  repeat' first
    | exact Ev.now _
    | (split)
def patchS (text : List ByteArray) (ths : List S34) (p : List S52) : List ByteArray × List S34 × Int :=
  if (applyV p text).2.1 = 0 then (outF text p 0, ths.map (mv p), 0) else (text, ths, (applyV p text).2.1)
theorem patch_ev {text : List ByteArray} {ths : List S34} (p : List S52) (hf : Fit text ths) : Ev (fun k => rvPatch k text ths p) (patchS text ths p) := by
  unfold rvPatch patchS
  refine Ev.bind (Apply_ev p text) ?_
  by_cases h : (applyV p text).2.1 = 0
  · obtain ⟨h1, _, h3, h4, h5⟩ := applyV_ok h
    obtain ⟨_, hm, hv⟩ := patchV_zero h1
    rw [if_pos h]
    rw [h3]
    refine Ev.pos (by rfl) ?_
    exact Ev.bind (move_ev hm hv ths (fun t ht h0 => by have := hf.2 t ht h0; have := hf.1; omega)) (Ev.now _)
  · rw [if_neg h]
    refine Ev.neg (fun e => h ?_) (Ev.now _)
    simp at e
    exact e.1
def stepV (text : List ByteArray) (ths : List S34) (e : S43) : List ByteArray × List S34 × Int :=
  if e.f0 < 1 then (text, ths, 4) else (if 4 < e.f0 then (text, ths, 4) else (if unusedV e = true then (text, ths, 5) else (if e.f1 < 0 then (text, ths, 3) else (if 7 < e.f1 then (text, ths, 3) else
    (if e.f0 = 1 then (text, (openV text ths e.f1 e.f3 e.f4).1, (openV text ths e.f1 e.f3 e.f4).2) else (if e.f0 = 4 then patchS text ths e.f5.f0 else
      (if e.f0 = 2 then (if codeV e.f4 = 0 then rvTouch text ths e.f0 e.f1 e.f2 else (text, ths, codeV e.f4)) else rvTouch text ths e.f0 e.f1 e.f2)))))))
theorem step_ev {text : List ByteArray} {ths : List S34} (e : S43) (hf : Fit text ths) : Ev (fun k => rvStep k text ths e.f0 e.f1 e.f2 e.f3 e.f4 e.f5.f0) (stepV text ths e) := by
  unfold rvStep stepV
  simp only [unused_eq, Option.bind_some]
  refine Ev.ite' (fun _ => Ev.now _) (fun _ => Ev.ite' (fun _ => Ev.now _) (fun _ => Ev.ite' (fun _ => Ev.now _) (fun _ => Ev.ite' (fun _ => Ev.now _) (fun _ => Ev.ite' (fun _ => Ev.now _) (fun _ => Ev.ite' (fun _ => ?_) (fun _ => Ev.ite' (fun _ => patch_ev _ hf) (fun _ => Ev.ite' (fun _ => ?_) (fun _ => Ev.now _))))))))
  · exact Ev.bind (open_ev _ _ _ _ _) (Ev.now _)
  · exact Ev.bind (textCode_ev _) (Ev.ite' (fun _ => Ev.now _) (fun _ => Ev.now _))
theorem mem_set {ths : List S34} {i : Nat} {x t : S34} (h : t ∈ ths.set i x) : t ∈ ths ∨ t = x := List.mem_or_eq_of_mem_set h
theorem getD_mem {ths : List S34} {i : Nat} (h : i < ths.length) : ths.getD i z34 ∈ ths := by
  rw [List.getD_eq_getElem?_getD, List.getElem?_eq_getElem h]
  exact List.getElem_mem h
theorem touch_text (text : List ByteArray) (ths : List S34) (e0 e1 e2 : Int) : (rvTouch text ths e0 e1 e2).1 = text := by
  unfold rvTouch
  repeat' first
    | rfl
    | split
theorem fit_touch {text : List ByteArray} {ths : List S34} (e0 e1 e2 : Int) (hf : Fit text ths) : Fit text (rvTouch text ths e0 e1 e2).2.1 := by
  unfold rvTouch
  by_cases h1 : e2 < 0
  · rw [if_pos h1]; exact hf
  rw [if_neg h1]
  by_cases h2 : (ths.length : Int) ≤ e2
  · rw [if_pos h2]; exact hf
  rw [if_neg h2]
  have hm := getD_mem (ths := ths) (i := e2.toNat) (by omega)
  have key : ∀ x : S34, x.f1 = (ths.getD e2.toNat z34).f1 → x.f3 = (ths.getD e2.toNat z34).f3 → Fit text (ths.set e2.toNat x) := by
    intro x hx1 hx3
    refine ⟨hf.1, fun t ht h3 => ?_⟩
    rcases mem_set ht with h | rfl
    · exact hf.2 t h h3
    · rw [hx1]
      exact hf.2 _ hm (by rw [← hx3]; exact h3)
  repeat' first
    | exact hf
    | exact key _ rfl rfl
    | split
theorem fit_patch {text : List ByteArray} {ths : List S34} (p : List S52) (hf : Fit text ths) : Fit (patchS text ths p).1 (patchS text ths p).2.1 := by
  unfold patchS
  by_cases h : (applyV p text).2.1 = 0
  · rw [if_pos h]
    obtain ⟨h1, _, h3, h4, h5⟩ := applyV_ok h
    obtain ⟨_, hm, hv⟩ := patchV_zero h1
    refine ⟨h4, fun t ht h0 => ?_⟩
    obtain ⟨s, hs, rfl⟩ := List.mem_map.1 ht
    unfold mv at h0 ⊢
    by_cases c : s.f3 = true
    · rw [if_pos c] at h0; rw [c] at h0; cases h0
    rw [if_neg c] at h0 ⊢
    by_cases d : (place p s.f1 0).2 = true
    · rw [if_pos d]
      have hb := hf.2 s hs (by simpa using c)
      obtain ⟨i, hi⟩ : ∃ i : Nat, s.f1 = (i : Int) := ⟨s.f1.toNat, by omega⟩
      rw [hi] at d hb ⊢
      obtain ⟨q, hq, ht2⟩ := place_text text p 0 i 0 hv h5 (by omega) (by omega) d
      have hlt : q < (outF text p 0).length := by
        rcases Nat.lt_or_ge q (outF text p 0).length with hl | hl
        · exact hl
        · rw [List.getElem?_eq_none hl, List.getElem?_eq_getElem (by omega)] at ht2
          cases ht2
      show 0 ≤ (place p (i : Int) 0).1 ∧ (place p (i : Int) 0).1 < ((outF text p 0).length : Int)
      rw [hq]
      omega
    · rw [if_neg d] at h0
      cases h0
  · rw [if_neg h]; exact hf
theorem fit_open {text : List ByteArray} {ths : List S34} (us ln : Int) (tx : ByteArray) (hf : Fit text ths) : Fit text (openV text ths us ln tx).1 := by
  unfold openV
  by_cases h0 : codeV tx = 0
  · rw [if_pos h0]
    by_cases h1 : ln < 0
    · rw [if_pos h1]; exact hf
    rw [if_neg h1]
    by_cases h2 : (text.length : Int) ≤ ln
    · rw [if_pos h2]; exact hf
    rw [if_neg h2]
    by_cases h3 : (12 : Int) ≤ (ths.length : Int)
    · rw [if_pos h3]; exact hf
    rw [if_neg h3]
    refine ⟨hf.1, fun t ht h => ?_⟩
    rcases List.mem_append.1 ht with h' | h'
    · exact hf.2 t h' h
    · rw [List.mem_singleton.1 h']
      exact ⟨show (0 : Int) ≤ ln by omega, show ln < (text.length : Int) by omega⟩
  · rw [if_neg h0]; exact hf
theorem fit_step {text : List ByteArray} {ths : List S34} (e : S43) (hf : Fit text ths) : Fit (stepV text ths e).1 (stepV text ths e).2.1 := by
  unfold stepV
  repeat' first
    | exact hf
    | exact fit_patch _ hf
    | exact fit_open _ _ _ hf
    | (rw [touch_text]; exact fit_touch _ _ _ hf)
    | split
def runV : List S43 → Int → List ByteArray → List S34 → List S34 × List ByteArray × Int × Int
  | [], _, text, ths => (ths, text, 0, 0)
  | e :: es, i, text, ths => if (stepV text ths e).2.2 = 0 then runV es (i + 1) (stepV text ths e).1 (stepV text ths e).2.1 else ([], [], (stepV text ths e).2.2, i)
theorem run_loop : ∀ (es : List S43) (i : Int) (text : List ByteArray) (ths : List S34), Fit text ths → Ev (fun k => rvRun k es i text ths) (runV es i text ths)
  | [], _, _, _, _ => Ev.now _
  | e :: es, i, text, ths, hf => by
    simp only [rvRun, runV]
    exact Ev.bind (step_ev e hf) (Ev.ite' (fun _ => run_loop es _ _ _ (fit_step e hf)) (fun _ => Ev.now _))
def RunV (l0 : List ByteArray) (l1 : List S43) : List S34 × List ByteArray × Int × Int :=
  if (linesV l0).1 = 0 then (if (30 : Int) < (l1.length : Int) then ([], [], 2, -1) else runV l1 0 l0 []) else ([], [], (linesV l0).1, -2)
theorem fit_nil {l0 : List ByteArray} (h : (linesV l0).1 = 0) : Fit l0 [] := ⟨linesV_len h, fun t ht => absurd ht (by simp)⟩
theorem Run_ev (l0 : List ByteArray) (l1 : List S43) : Ev (fun k => threads_Run.f k l0 l1) (RunV l0 l1) := by
  unfold threads_Run.f RunV
  refine Ev.bind (lines_Code_ev l0) ?_
  by_cases h : (linesV l0).1 = 0
  · rw [if_pos h]
    refine Ev.pos h ?_
    refine Ev.ite' (fun _ => Ev.now _) (fun _ => ?_)
    have hl := linesV_len h
    have hc : slices_Clone_string_string.f l0 = some l0 := by unfold slices_Clone_string_string.f; rw [if_pos (by omega)]
    simp only [hc, Option.bind_some]
    exact run_loop l1 0 l0 [] (fit_nil h)
  · rw [if_neg h]
    exact Ev.neg h (Ev.now _)
/-- A run that ends well, step by step. -/
theorem runV_append : ∀ (es fs : List S43) (i : Int) (text : List ByteArray) (ths : List S34), (runV (es ++ fs) i text ths).2.2.1 = 0 →
    (runV es i text ths).2.2.1 = 0 ∧ runV (es ++ fs) i text ths = runV fs (i + es.length) (runV es i text ths).2.1 (runV es i text ths).1
  | [], fs, i, text, ths, h => by simp [runV]
  | e :: es, fs, i, text, ths, h => by
    simp only [List.cons_append, runV] at h ⊢
    by_cases c : (stepV text ths e).2.2 = 0
    · rw [if_pos c] at h ⊢
      rw [if_pos c]
      obtain ⟨a, b⟩ := runV_append es fs (i + 1) _ _ h
      refine ⟨a, ?_⟩
      rw [b]
      congr 1
      rw [List.length_cons]
      omega
    · rw [if_neg c] at h
      exact absurd h c
theorem runV_zero : ∀ (es : List S43) (i : Int) (text : List ByteArray) (ths : List S34), (runV es i text ths).2.2.1 = 0 → (runV es i text ths).2.2.2 = 0
  | [], i, text, ths, h => rfl
  | e :: es, i, text, ths, h => by
    simp only [runV] at h ⊢
    by_cases c : (stepV text ths e).2.2 = 0
    · rw [if_pos c] at h ⊢
      exact runV_zero es _ _ _ h
    · rw [if_neg c] at h
      exact absurd h c
theorem RunV_ok {l0 : List ByteArray} {l1 : List S43} (h : (RunV l0 l1).2.2.1 = 0) : (linesV l0).1 = 0 ∧ l1.length ≤ 30 ∧ RunV l0 l1 = runV l1 0 l0 [] := by
  unfold RunV at h ⊢
  by_cases h1 : (linesV l0).1 = 0
  · rw [if_pos h1] at h ⊢
    by_cases h2 : (30 : Int) < (l1.length : Int)
    · rw [if_pos h2] at h; cases h
    · rw [if_neg h2]
      exact ⟨h1, by omega, rfl⟩
  · rw [if_neg h1] at h
    exact absurd h h1
/-- The beginning of a run that ends well ends well. -/
theorem RunV_append {l0 : List ByteArray} {es fs : List S43} (h : (RunV l0 (es ++ fs)).2.2.1 = 0) : (RunV l0 es).2.2.1 = 0 ∧ RunV l0 (es ++ fs) = runV fs ((es.length : Int)) (RunV l0 es).2.1 (RunV l0 es).1 := by
  obtain ⟨h1, h2, h3⟩ := RunV_ok h
  rw [h3] at h
  obtain ⟨a, b⟩ := runV_append es fs 0 l0 [] h
  have e : RunV l0 es = runV es 0 l0 [] := by
    unfold RunV
    rw [if_pos h1, if_neg (by rw [List.length_append] at h2; omega)]
  rw [h3, b, e]
  exact ⟨a, by congr 1; omega⟩
theorem run_fit : ∀ (es : List S43) (i : Int) (text : List ByteArray) (ths : List S34), Fit text ths → (runV es i text ths).2.2.1 = 0 → Fit (runV es i text ths).2.1 (runV es i text ths).1
  | [], _, _, _, hf, _ => hf
  | e :: es, i, text, ths, hf, h => by
    simp only [runV] at h ⊢
    by_cases c : (stepV text ths e).2.2 = 0
    · rw [if_pos c] at h ⊢
      exact run_fit es _ _ _ (fit_step e hf) h
    · rw [if_neg c] at h
      exact absurd h c
theorem len_touch {ths : List S34} (text : List ByteArray) (e0 e1 e2 : Int) (h : ths.length ≤ 12) : (rvTouch text ths e0 e1 e2).2.1.length ≤ 12 := by
  unfold rvTouch
  repeat' first
    | exact h
    | (show (List.set _ _ _).length ≤ 12; rw [List.length_set]; exact h)
    | split
theorem len_open {ths : List S34} (text : List ByteArray) (us ln : Int) (tx : ByteArray) (h : ths.length ≤ 12) : (openV text ths us ln tx).1.length ≤ 12 := by
  unfold openV
  by_cases h0 : codeV tx = 0
  · rw [if_pos h0]
    by_cases h1 : ln < 0
    · rw [if_pos h1]; exact h
    rw [if_neg h1]
    by_cases h2 : (text.length : Int) ≤ ln
    · rw [if_pos h2]; exact h
    rw [if_neg h2]
    by_cases h3 : (12 : Int) ≤ (ths.length : Int)
    · rw [if_pos h3]; exact h
    rw [if_neg h3]
    show (ths ++ [_]).length ≤ 12
    rw [List.length_append, List.length_singleton]
    omega
  · rw [if_neg h0]; exact h
theorem len_step {ths : List S34} (text : List ByteArray) (e : S43) (h : ths.length ≤ 12) : (stepV text ths e).2.1.length ≤ 12 := by
  unfold stepV patchS
  repeat' first
    | exact h
    | exact len_open _ _ _ _ h
    | exact len_touch _ _ _ _ h
    | (show (List.map _ _).length ≤ 12; rw [List.length_map]; exact h)
    | split
theorem run_len : ∀ (es : List S43) (i : Int) (text : List ByteArray) (ths : List S34), ths.length ≤ 12 → (runV es i text ths).1.length ≤ 12
  | [], _, _, _, h => h
  | e :: es, i, text, ths, h => by
    simp only [runV]
    split
    · exact run_len es _ _ _ (len_step _ _ h)
    · exact Nat.zero_le _
theorem RunV_len (l0 : List ByteArray) (l1 : List S43) : (RunV l0 l1).1.length ≤ 12 := by
  unfold RunV
  repeat' first
    | exact Nat.zero_le _
    | exact run_len _ _ _ _ (Nat.zero_le _)
    | split
end Go.Proofs.Ytjpdcnaealdbjaa.Pu
/- The example and the comparisons of the laws of threads, in plain words: by the template tmpl/PureThreadsEx.lean of this repo. -/
namespace Go.Proofs.Ytjpdcnaealdbjaa.Pu
open Go.RowKit Go.Proofs.YtjpdcnaealdbjaaW.PrintWords Go.Proofs.YtjpdcnaealdbjaaW.PrintLast Go.Proofs.Ytjpdcnaealdbjaa.PTh
set_option linter.unusedVariables false
set_option linter.unusedSimpArgs false

theorem threadsExample_ev : Ev (fun k => changeforgelaw7_threadsExample.f k) true := Ev.of changeforgelaw7_threadsExample.mono (k := 40) (by decide +kernel)
end Go.Proofs.Ytjpdcnaealdbjaa.Pu
