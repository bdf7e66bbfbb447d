/- What the functions of anchor compute, in plain words: by the template tmpl/PureAnchor.lean of this repo. -/
import Derived.Test.YtbkdaofddnkaaaaPureLines
import Derived.Test.YtbkdaofddnkaaaaPAmx27
import Derived.Test.YtbkdaofddnkaaaaPAmx21
namespace Go.Proofs.Ytbkdaofddnkaaaa.Pu
open Go.RowKit Go.Proofs.YtbkdaofddnkaaaaW.PrintWords Go.Proofs.YtbkdaofddnkaaaaW.PrintLast Go.Proofs.Ytbkdaofddnkaaaa.PAm
set_option linter.unusedVariables false
set_option linter.unusedSimpArgs false

/-- Where a line comes to, what was in front having moved by 'shift'. -/
def place : List Hk → Int → Int → Int × Bool
  | [], line, shift => (line + shift, true)
  | h :: t, line, shift => if line < h.f0 then (line + shift, true) else if line < h.f0 + h.f1.length then (h.f0 + shift, false) else place t line (shift + (h.f2.length - h.f1.length))
theorem place_loop (xs : List Hk) (hm : xs.length ≤ 130) (line : Int) (l0 : -1000000000 ≤ line) (l1 : line ≤ 1000000000) : ∀ (t : List Hk) (j : Nat) (shift low : Int), xs.drop j = t → j ≤ xs.length → Valid low t →
    -(1000 * (j : Int)) ≤ shift → shift ≤ 1000 * (j : Int) →
    Ev (fun k => anchor_Place.l0 k line shift xs (xs.length : Int) (j : Int)) (place t line shift) := by
  intro t
  induction t with
  | nil =>
    intro j shift low h hj _ s0 s1
    have := drop_nil h
    refine Ev.succ ?_
    simp only [anchor_Place.l0]
    refine Ev.neg (by omega) ?_
    rw [w64 (by omega) (by omega)]
    exact Ev.now _
  | cons s t ih =>
    intro j shift low h hj hv s0 s1
    obtain ⟨hl, hg, ht⟩ := drop_cons h
    have hr := rd_hunk hg
    obtain ⟨a, b, c, d, _, _, e, hv'⟩ := hv
    have c' := linesV_len c
    have d' := linesV_len d
    refine Ev.succ ?_
    simp only [anchor_Place.l0]
    refine Ev.pos (by omega) (Ev.pos (by omega) (Ev.pos (by omega) ?_))
    simp only [hr]
    unfold place
    by_cases h1 : line < s.f0
    · rw [if_pos h1]
      refine Ev.pos h1 ?_
      rw [w64 (by omega) (by omega)]
      exact Ev.now _
    · rw [if_neg h1]
      refine Ev.neg h1 ?_
      simp only [End_eq s a b c', Option.bind_some]
      by_cases h2 : line < s.f0 + s.f1.length
      · rw [if_pos h2]
        refine Ev.pos h2 ?_
        rw [w64 (by omega) (by omega)]
        exact Ev.now _
      · rw [if_neg h2]
        refine Ev.neg h2 ?_
        have e1 : wrap64 ((s.f2.length : Int) - (s.f1.length : Int)) = (s.f2.length : Int) - (s.f1.length : Int) := w64 (by omega) (by omega)
        rw [e1, w64 (x := shift + _) (by omega) (by omega), wsucc (by omega)]
        exact ih (j + 1) _ _ ht (by omega) hv' (by omega) (by omega)
theorem Place_ev {hs : List Hk} (hm : hs.length ≤ 130) (hv : Valid 0 hs) (line : Int) (l0 : -1000000000 ≤ line) (l1 : line ≤ 1000000000) : Ev (fun k => anchor_Place.f k hs line) (place hs line 0) := by
  unfold anchor_Place.f
  exact place_loop hs hm line l0 l1 hs 0 0 0 rfl (by omega) hv (by omega) (by omega)
theorem place_bounds : ∀ (t : List Hk) (line shift low : Int), Valid low t → 0 ≤ line → -(1000 * (t.length : Int)) ≤ (place t line shift).1 - shift ∧ (place t line shift).1 - shift ≤ line + 120 + 1000 * (t.length : Int)
  | [], line, shift, low, _, h0 => by simp only [place, List.length_nil]; omega
  | h :: t, line, shift, low, hv, h0 => by
    obtain ⟨a, b, c, d, _, _, e, hv'⟩ := hv
    have c' := linesV_len c
    have d' := linesV_len d
    have ih := place_bounds t line (shift + (h.f2.length - h.f1.length)) _ hv' h0
    simp only [List.length_cons]
    unfold place
    by_cases h1 : line < h.f0
    · rw [if_pos h1]
      show _ ≤ line + shift - shift ∧ line + shift - shift ≤ _
      omega
    · rw [if_neg h1]
      by_cases h2 : line < h.f0 + h.f1.length
      · rw [if_pos h2]
        show _ ≤ h.f0 + shift - shift ∧ h.f0 + shift - shift ≤ _
        omega
      · rw [if_neg h2]
        omega
/-- Lines behind a point stay behind its place. -/
theorem place_ge : ∀ (t : List Hk) (line shift b : Int), Valid b t → b ≤ line + 1 → (place t line shift).2 = true → b + shift ≤ (place t line shift).1 + 1
  | [], line, shift, b, _, hb, _ => by simp only [place]; omega
  | h :: t, line, shift, b, hv, hb, hk => by
    obtain ⟨_, _, _, _, _, f, _, hv'⟩ := hv
    unfold place at hk ⊢
    by_cases h1 : line < h.f0
    · rw [if_pos h1]
      show b + shift ≤ line + shift + 1
      omega
    · rw [if_neg h1] at hk ⊢
      by_cases h2 : line < h.f0 + h.f1.length
      · rw [if_pos h2] at hk
        simp at hk
      · rw [if_neg h2] at hk ⊢
        have := place_ge t line (shift + (h.f2.length - h.f1.length)) (h.f0 + h.f1.length + 1) hv' (by omega) hk
        omega
/-- The hunks of the inverse. -/
def invs : List Hk → Int → List Hk
  | [], _ => []
  | h :: t, shift => ⟨h.f0 + shift, h.f2, h.f1⟩ :: invs t (shift + (h.f2.length - h.f1.length))
theorem invs_length : ∀ (t : List Hk) (shift : Int), (invs t shift).length = t.length
  | [], _ => rfl
  | h :: t, shift => by simp [invs, invs_length t]
theorem place_inv : ∀ (t : List Hk) (line shift b : Int), Valid b t → (place t line shift).2 = true → place (invs t shift) (place t line shift).1 (-shift) = (line, true)
  | [], line, shift, b, _, _ => by simp [place, invs]; omega
  | h :: t, line, shift, b, hv, hk => by
    obtain ⟨_, _, _, _, _, f, _, hv'⟩ := hv
    unfold place at hk
    by_cases h1 : line < h.f0
    · have e : place (h :: t) line shift = (line + shift, true) := by unfold place; rw [if_pos h1]
      rw [e]
      unfold invs place
      rw [if_pos (by show line + shift < h.f0 + shift; omega)]
      simp; omega
    · rw [if_neg h1] at hk
      by_cases h2 : line < h.f0 + h.f1.length
      · rw [if_pos h2] at hk
        simp at hk
      · rw [if_neg h2] at hk
        have e : place (h :: t) line shift = place t line (shift + (h.f2.length - h.f1.length)) := by
          conv => lhs; unfold place
          rw [if_neg h1, if_neg h2]
        have hg := place_ge t line (shift + (h.f2.length - h.f1.length)) (h.f0 + h.f1.length + 1) hv' (by omega) hk
        have ih := place_inv t line (shift + (h.f2.length - h.f1.length)) _ hv' hk
        rw [e]
        unfold invs
        conv => lhs; unfold place
        show (if (place t line (shift + (h.f2.length - h.f1.length))).1 < h.f0 + shift then _ else if (place t line (shift + (h.f2.length - h.f1.length))).1 < h.f0 + shift + (h.f2.length : Int) then _ else place (invs t (shift + (h.f2.length - h.f1.length))) (place t line (shift + (h.f2.length - h.f1.length))).1 (-shift + ((h.f1.length : Int) - (h.f2.length : Int)))) = (line, true)
        rw [if_neg (by omega), if_neg (by omega), show (-shift + ((h.f1.length : Int) - (h.f2.length : Int))) = -(shift + (h.f2.length - h.f1.length)) by omega]
        exact ih
theorem invert_loop (xs : List Hk) (hm : xs.length ≤ 130) : ∀ (t : List Hk) (j : Nat) (shift low : Int) (acc : List Hk), xs.drop j = t → j ≤ xs.length → Valid low t → acc.length = j →
    -(1000 * (j : Int)) ≤ shift → shift ≤ 1000 * (j : Int) →
    Ev (fun k => textpatch_Invert.l0 k shift xs (xs.length : Int) (j : Int) acc) (if (patchV (acc ++ invs t shift)).1 = 0 then (acc ++ invs t shift, 0, 0) else ([], 10, -1)) := by
  intro t
  induction t with
  | nil =>
    intro j shift low acc h hj _ _ s0 s1
    have := drop_nil h
    refine Ev.succ ?_
    simp only [textpatch_Invert.l0]
    refine Ev.neg (by omega) ?_
    have hF : Ev (fun k => textpatch_Fit.f k acc) (if (patchV acc).1 = 0 then (acc, 0, 0) else ([], 10, -1)) := by
      unfold textpatch_Fit.f
      refine Ev.bind (patch_Validate_ev acc) ?_
      by_cases hz : (patchV acc).1 = 0
      · rw [if_pos hz]
        exact Ev.pos ((patchV_test acc).2 hz) (Ev.now _)
      · rw [if_neg hz]
        exact Ev.neg (fun e => hz ((patchV_test acc).1 e)) (Ev.now _)
    have hF2 := Ev.bind (f := fun _ r => some (r.1, r.2.1, r.2.2)) hF (Ev.now _)
    simpa [invs] using hF2
  | cons s t ih =>
    intro j shift low acc h hj hv ha s0 s1
    obtain ⟨hl, hg, ht⟩ := drop_cons h
    have hr := rd_hunk hg
    obtain ⟨a, b, c, d, _, _, e, hv'⟩ := hv
    have c' := linesV_len c
    have d' := linesV_len d
    refine Ev.succ ?_
    simp only [textpatch_Invert.l0]
    refine Ev.pos (by omega) (Ev.pos (by omega) (Ev.pos (by omega) ?_))
    simp only [hr]
    have k1 : slices_Clone_string_string.f s.f2 = some s.f2 := by unfold slices_Clone_string_string.f; rw [if_pos (by omega)]
    have k2 : slices_Clone_string_string.f s.f1 = some s.f1 := by unfold slices_Clone_string_string.f; rw [if_pos (by omega)]
    simp only [k1, k2, Option.bind_some]
    refine Ev.pos (by omega) ?_
    have e1 : wrap64 ((s.f2.length : Int) - (s.f1.length : Int)) = (s.f2.length : Int) - (s.f1.length : Int) := w64 (by omega) (by omega)
    rw [e1, w64 (x := shift + _) (by omega) (by omega), wsucc (by omega), w64 (x := s.f0 + shift) (by omega) (by omega)]
    have := ih (j + 1) (shift + (s.f2.length - s.f1.length)) _ (acc ++ [⟨s.f0 + shift, s.f2, s.f1⟩]) ht (by omega) hv' (by simp [ha]) (by omega) (by omega)
    rw [show acc ++ invs (s :: t) shift = (acc ++ [⟨s.f0 + shift, s.f2, s.f1⟩]) ++ invs t (shift + (s.f2.length - s.f1.length)) by simp [invs]]
    exact this
/-- Invert: the inverse, if it is valid. -/
def inverse (hs : List Hk) : List Hk × Int × Int := if (patchV hs).1 = 0 then (if (patchV (invs hs 0)).1 = 0 then (invs hs 0, 0, 0) else ([], 10, -1)) else ([], (patchV hs).1, (patchV hs).2)
theorem Invert_ev (hs : List Hk) : Ev (fun k => textpatch_Invert.f k hs) (inverse hs) := by
  unfold textpatch_Invert.f inverse
  refine Ev.bind (patch_Validate_ev hs) ?_
  by_cases hz : (patchV hs).1 = 0
  · rw [if_pos hz]
    obtain ⟨_, hm, hv⟩ := patchV_zero hz
    refine Ev.pos ((patchV_test hs).2 hz) ?_
    have := invert_loop hs hm hs 0 0 0 [] rfl (by omega) hv rfl (by omega) (by omega)
    simpa using this
  · rw [if_neg hz]
    exact Ev.neg (fun e => hz ((patchV_test hs).1 e)) (Ev.now _)
def lineF (line : Int) : Int × Int := if line < 0 ∨ line ≥ 120 then (3, -2) else (0, 0)
theorem lineFault_eq (line : Int) : anchor_lineFault.f line = some (lineF line) := by
  unfold anchor_lineFault.f lineF
  by_cases h : line < 0
  · rw [if_pos h, if_pos (.inl h)]
  · rw [if_neg h]
    by_cases h1 : line ≥ 120
    · rw [if_pos h1, if_pos (.inr h1)]
    · rw [if_neg h1, if_neg (by omega)]
def mapV (hs : List Hk) (line : Int) : Int × Bool × Int × Int :=
  if (patchV hs).1 = 0 then (if line < 0 ∨ line ≥ 120 then (0, false, 3, -2) else ((place hs line 0).1, (place hs line 0).2, 0, 0)) else (0, false, (patchV hs).1, (patchV hs).2)
theorem Map_ev (hs : List Hk) (line : Int) : Ev (fun k => anchor_Map.f k hs line) (mapV hs line) := by
  unfold anchor_Map.f mapV
  refine Ev.bind (patch_Validate_ev hs) ?_
  by_cases hz : (patchV hs).1 = 0
  · rw [if_pos hz]
    obtain ⟨_, hm, hv⟩ := patchV_zero hz
    refine Ev.pos ((patchV_test hs).2 hz) ?_
    simp only [lineFault_eq, Option.bind_some]
    unfold lineF
    by_cases hl : line < 0 ∨ line ≥ 120
    · simp only [if_pos hl]
      exact Ev.neg (by decide) (Ev.now _)
    · simp only [if_neg hl]
      refine Ev.pos (by decide) ?_
      exact Ev.bind (Place_ev hm hv line (by omega) (by omega)) (Ev.now _)
  · rw [if_neg hz]
    exact Ev.neg (fun e => hz ((patchV_test hs).1 e)) (Ev.now _)
def backV (hs : List Hk) (line : Int) : Int × Bool × Int × Int := if (inverse hs).2 = (0, 0) then mapV (inverse hs).1 line else (0, false, (inverse hs).2.1, (inverse hs).2.2)
theorem MapBack_ev (hs : List Hk) (line : Int) : Ev (fun k => anchor_MapBack.f k hs line) (backV hs line) := by
  unfold anchor_MapBack.f backV
  refine Ev.bind (Invert_ev hs) ?_
  by_cases hz : (inverse hs).2 = (0, 0)
  · rw [if_pos hz]
    refine Ev.pos (by rw [hz]; decide) ?_
    exact Ev.bind (Map_ev _ line) (Ev.now _)
  · rw [if_neg hz]
    refine Ev.neg (fun e => hz ((isZero_iff _).1 e)) (Ev.now _)
theorem anchorExample_ev : Ev (fun k => changeforgelaw7_anchorExample.f k) true := Ev.of changeforgelaw7_anchorExample.mono (k := 40) (by decide +kernel)
end Go.Proofs.Ytbkdaofddnkaaaa.Pu
