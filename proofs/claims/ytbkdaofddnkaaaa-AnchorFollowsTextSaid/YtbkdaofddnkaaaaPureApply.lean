/- Applying a patch, in plain words: by the template tmpl/PureApply.lean of this repo. -/
import Derived.Test.YtbkdaofddnkaaaaPureLines
import Derived.Test.YtbkdaofddnkaaaaPAnx24
namespace Go.Proofs.Ytbkdaofddnkaaaa.Pu
open Go.RowKit Go.Proofs.YtbkdaofddnkaaaaW.PrintWords Go.Proofs.YtbkdaofddnkaaaaW.PrintLast Go.Proofs.Ytbkdaofddnkaaaa.PAn
set_option linter.unusedVariables false
set_option linter.unusedSimpArgs false

theorem rdS {xs : List ByteArray} {j : Nat} {a : ByteArray} (hg : ∀ d, xs.getD j d = a) : rdOf ByteArray.empty xs (j : Int) = a := by
  simp only [rdOf, Int.toNat_natCast]
  exact hg _
theorem equal_loop (a b : List ByteArray) (hl : a.length = b.length) (hm : a.length < 9223372036854775807) : ∀ (t : List ByteArray) (j : Nat), a.drop j = t → j ≤ a.length → a.take j = b.take j →
    Ev (fun k => slices_Equal_string_string.l0 k a b (a.length : Int) (j : Int)) (decide (a = b)) := by
  intro t
  induction t with
  | nil =>
    intro j h hj he
    have := drop_nil h
    refine Ev.succ ?_
    simp only [slices_Equal_string_string.l0]
    refine Ev.neg (by omega) ?_
    rw [List.take_of_length_le (by omega), List.take_of_length_le (by omega)] at he
    simp only [he, decide_true]
    exact Ev.now _
  | cons s t ih =>
    intro j h hj he
    obtain ⟨hlt, hg, ht⟩ := drop_cons h
    refine Ev.succ ?_
    simp only [slices_Equal_string_string.l0]
    refine Ev.pos (by omega) (Ev.pos (by omega) (Ev.pos (by omega) (Ev.pos (by omega) ?_)))
    have hlb : j < b.length := by omega
    have ra := rdS hg
    have rb : rdOf ByteArray.empty b (j : Int) = b[j] := rdS (fun d => by simp [List.getD, List.getElem?_eq_getElem hlb])
    have ga : a[j] = s := by have := hg s; simpa [List.getD, List.getElem?_eq_getElem hlt] using this
    rw [ra, rb]
    by_cases hs : s.toList = b[j].toList
    · refine Ev.pos hs ?_
      rw [wsucc (by omega)]
      refine ih (j + 1) ht (by omega) ?_
      rw [List.take_succ_eq_append_getElem hlt, List.take_succ_eq_append_getElem hlb, he, ga, ba_eq.1 hs]
    · refine Ev.neg hs ?_
      have hne : ¬ a = b := by
        intro e
        subst e
        exact hs (by rw [ga])
      simp only [hne, decide_false]
      exact Ev.now _
theorem Equal_ev (a b : List ByteArray) (hm : a.length < 9223372036854775807) : Ev (fun k => slices_Equal_string_string.f k a b) (decide (a = b)) := by
  unfold slices_Equal_string_string.f
  by_cases h : a.length = b.length
  · refine Ev.pos (by omega) ?_
    exact equal_loop a b h hm a 0 rfl (by omega) rfl
  · refine Ev.neg (by omega) ?_
    have hne : ¬ a = b := fun e => h (by rw [e])
    simp only [hne, decide_false]
    exact Ev.now _
/-- The text behind the hunks, from line 'at' on; 'j': the number of the next hunk. -/
def applyFrom (text : List ByteArray) : List Hk → Nat → List ByteArray → Int → List ByteArray × Int × Int
  | [], p, acc, _ => if (acc ++ text.drop p).length > 120 then ([], 10, -1) else (acc ++ text.drop p, 0, 0)
  | h :: t, p, acc, j => if h.f0 + h.f1.length ≤ text.length ∧ (text.take (h.f0.toNat + h.f1.length)).drop h.f0.toNat = h.f1 then
      applyFrom text t (h.f0.toNat + h.f1.length) (acc ++ (text.take h.f0.toNat).drop p ++ h.f2) (j + 1) else ([], 19, j)
def applyV (hs : List Hk) (text : List ByteArray) : List ByteArray × Int × Int :=
  if (patchV hs).1 = 0 then (if (linesV text).1 = 0 then applyFrom text hs 0 [] 0 else ([], (linesV text).1, -2)) else ([], (patchV hs).1, (patchV hs).2)
theorem apply_loop (text : List ByteArray) (hx : text.length ≤ 120) (xs : List Hk) (hm : xs.length ≤ 130) : ∀ (t : List Hk) (j p : Nat) (acc : List ByteArray), xs.drop j = t → j ≤ xs.length → Valid (p : Int) t →
    p ≤ text.length + 1 → (t = [] → p ≤ text.length) → p ≤ text.length → acc.length ≤ 300 * j →
    Ev (fun k => textpatch_Apply.l0 k text acc (p : Int) xs (xs.length : Int) (j : Int)) (applyFrom text t p acc (j : Int)) := by
  intro t
  induction t with
  | nil =>
    intro j p acc h hj _ _ _ hp ha
    have := drop_nil h
    refine Ev.succ ?_
    simp only [textpatch_Apply.l0]
    have hl : (text.drop p).length ≤ 120 := by rw [List.length_drop]; omega
    refine Ev.neg (by omega) (Ev.pos (by omega) (Ev.pos (by omega) ?_))
    simp only [Int.toNat_natCast, Option.bind_some]
    refine Ev.pos (by omega) ?_
    unfold applyFrom
    by_cases h1 : (acc ++ text.drop p).length > 120
    · rw [if_pos h1]
      exact Ev.pos (by omega) (Ev.now _)
    · rw [if_neg h1]
      exact Ev.neg (by omega) (Ev.now _)
  | cons s t ih =>
    intro j p acc h hj hv _ _ hp ha
    obtain ⟨hl, hg, ht⟩ := drop_cons h
    have hr := rd_hunk hg
    obtain ⟨a, b, c, d, _, f, e, hv'⟩ := hv
    have c' := linesV_len c
    have d' := linesV_len d
    have hE := End_eq s a b c'
    refine Ev.succ ?_
    simp only [textpatch_Apply.l0]
    refine Ev.pos (by omega) (Ev.pos (by omega) (Ev.pos (by omega) ?_))
    simp only [hr, hE, Option.bind_some]
    unfold applyFrom
    by_cases h1 : s.f0 + s.f1.length ≤ text.length
    · refine Ev.neg (by omega) (Ev.pos a (Ev.pos (by omega) (Ev.pos (by omega) ?_)))
      have e1 : (s.f0 + (s.f1.length : Int)).toNat = s.f0.toNat + s.f1.length := by omega
      rw [e1]
      refine Ev.bind (Equal_ev _ _ (by rw [List.length_drop, List.length_take]; omega)) ?_
      by_cases h2 : (text.take (s.f0.toNat + s.f1.length)).drop s.f0.toNat = s.f1
      · simp only [h2, decide_true, if_true, and_true]
        rw [if_pos h1]
        have hl1 : ((text.take s.f0.toNat).drop p).length ≤ 120 := by rw [List.length_drop, List.length_take]; omega
        refine Ev.pos (by omega) (Ev.pos (by omega) (Ev.pos (by omega) ?_))
        simp only [Int.toNat_natCast]
        refine Ev.pos (by omega) (Ev.pos (by rw [List.length_append]; omega) ?_)
        rw [wsucc (by omega), show s.f0 + (s.f1.length : Int) = ((s.f0.toNat + s.f1.length : Nat) : Int) by omega]
        have := ih (j + 1) (s.f0.toNat + s.f1.length) (acc ++ (text.take s.f0.toNat).drop p ++ s.f2) ht (by omega) (by
            have hv2 := hv'
            cases t with
            | nil => trivial
            | cons q t => obtain ⟨z1, z2, z3, z4, z5, z6, z7, z8⟩ := hv2; exact ⟨z1, z2, z3, z4, z5, by omega, z7, z8⟩) (by omega) (fun _ => by omega) (by omega) (by simp only [List.length_append]; omega)
        simpa using this
      · simp only [h2, decide_false, Bool.false_eq_true, if_false, and_false]
        exact Ev.now _
    · rw [if_neg (fun z => h1 z.1)]
      exact Ev.pos (by omega) (Ev.now _)
theorem Apply_ev (hs : List Hk) (text : List ByteArray) : Ev (fun k => textpatch_Apply.f k hs text) (applyV hs text) := by
  unfold textpatch_Apply.f applyV
  refine Ev.bind (patch_Validate_ev hs) ?_
  by_cases hz : (patchV hs).1 = 0
  · rw [if_pos hz]
    obtain ⟨_, hm, hv⟩ := patchV_zero hz
    refine Ev.pos ((patchV_test hs).2 hz) ?_
    refine Ev.bind (lines_Code_ev text) ?_
    by_cases h1 : (linesV text).1 = 0
    · simp only [h1, if_true]
      exact apply_loop text (linesV_len h1) hs hm hs 0 0 [] rfl (by omega) hv (by omega) (fun _ => by omega) (by omega) (by simp)
    · simp only [h1, if_false]
      exact Ev.now _
  · rw [if_neg hz]
    exact Ev.neg (fun e => hz ((patchV_test hs).1 e)) (Ev.now _)
/-- What the new text is, from line p of the old one on. -/
def outF (text : List ByteArray) : List Hk → Nat → List ByteArray
  | [], p => text.drop p
  | h :: t, p => (text.take h.f0.toNat).drop p ++ h.f2 ++ outF text t (h.f0.toNat + h.f1.length)
theorem applyFrom_out (text : List ByteArray) : ∀ (t : List Hk) (p : Nat) (acc : List ByteArray) (j : Int), (applyFrom text t p acc j).2.1 = 0 →
    applyFrom text t p acc j = (acc ++ outF text t p, 0, 0) ∧ (acc ++ outF text t p).length ≤ 120 ∧ (∀ h ∈ t, h.f0 + h.f1.length ≤ text.length)
  | [], p, acc, j, hz => by
    unfold applyFrom at hz ⊢
    by_cases h1 : (acc ++ text.drop p).length > 120
    · rw [if_pos h1] at hz; simp at hz
    · rw [if_neg h1]
      exact ⟨rfl, by unfold outF; omega, by simp⟩
  | h :: t, p, acc, j, hz => by
    unfold applyFrom at hz ⊢
    by_cases h1 : h.f0 + h.f1.length ≤ text.length ∧ (text.take (h.f0.toNat + h.f1.length)).drop h.f0.toNat = h.f1
    · rw [if_pos h1] at hz ⊢
      obtain ⟨e, hl, ha⟩ := applyFrom_out text t _ _ _ hz
      unfold outF
      refine ⟨by rw [e]; simp, by simpa using hl, fun q hq => ?_⟩
      rcases List.mem_cons.1 hq with rfl | hq
      · exact h1.1
      · exact ha q hq
    · rw [if_neg h1] at hz
      simp at hz
theorem applyV_ok {hs : List Hk} {text : List ByteArray} (h : (applyV hs text).2.1 = 0) : (patchV hs).1 = 0 ∧ (linesV text).1 = 0 ∧ applyV hs text = (outF text hs 0, 0, 0) ∧ (outF text hs 0).length ≤ 120 ∧ (∀ q ∈ hs, q.f0 + q.f1.length ≤ text.length) := by
  unfold applyV at h ⊢
  by_cases h1 : (patchV hs).1 = 0
  · rw [if_pos h1] at h ⊢
    by_cases h2 : (linesV text).1 = 0
    · rw [if_pos h2] at h ⊢
      obtain ⟨e, hl, ha⟩ := applyFrom_out text hs 0 [] 0 h
      exact ⟨h1, h2, by simpa using e, by simpa using hl, ha⟩
    · rw [if_neg h2] at h
      exact absurd h h2
  · rw [if_neg h1] at h
    exact absurd h h1
end Go.Proofs.Ytbkdaofddnkaaaa.Pu
