/- What the reference's Reversed computes is the inverse, in plain words: by the template tmpl/PureMapSpec.lean of this repo. -/
import Derived.Test.YtbkdaofddnkaaaaPureAnchor
import Derived.Test.YtbkdaofddnkaaaaAr
namespace Go.Proofs.Ytbkdaofddnkaaaa.Pu
open Go.RowKit Go.Proofs.YtbkdaofddnkaaaaW.PrintWords Go.Proofs.YtbkdaofddnkaaaaW.PrintLast Go.Proofs.Ytbkdaofddnkaaaa.PAm
set_option linter.unusedVariables false
set_option linter.unusedSimpArgs false

theorem up_len2 : ∀ (c : Nat) (n : Int), (PAm.up c n).length = c
  | 0, _ => rfl
  | c + 1, n => by simp only [PAm.up, List.length_cons, up_len2 c]
theorem up_get : ∀ (c i : Nat) (n : Int), i < c → (PAm.up c n).getD i (0, false) = (n + (i : Int), true)
  | 0, i, n, h => absurd h (by omega)
  | c + 1, 0, n, _ => by simp [PAm.up]
  | c + 1, i + 1, n, h => by
    simp only [PAm.up, List.getD_cons_succ]
    rw [up_get c i (n + 1) (by omega)]
    congr 1
    omega
theorem getD_left {α : Type} {a b : List α} {i : Nat} {d : α} (h : i < a.length) : (a ++ b).getD i d = a.getD i d := by simp only [List.getD_eq_getElem?_getD, List.getElem?_append_left h]
theorem getD_right {α : Type} {a b : List α} {i : Nat} {d : α} (h : a.length ≤ i) : (a ++ b).getD i d = b.getD (i - a.length) d := by simp only [List.getD_eq_getElem?_getD, List.getElem?_append_right h]
theorem Valid_mono2 {t : List Hk} {a b : Int} (hab : a ≤ b) (h : Valid b t) : Valid a t := by
  cases t with
  | nil => trivial
  | cons h' t =>
    obtain ⟨a1, a2, a3, a4, a5, a6, a7, hv'⟩ := h
    exact ⟨a1, a2, a3, a4, a5, by omega, a7, hv'⟩
/-- The traced place is the place. -/
theorem trL_place : ∀ (hs : List Hk) (o i : Nat) (n shift : Int), Valid (o : Int) hs → o ≤ i → i < 130 → n = (o : Int) + shift →
    (trL hs o n).getD (i - o) (0, false) = place hs (i : Int) shift
  | [], o, i, n, shift, _, h1, h2, h3 => by
    simp only [trL, place]
    rw [up_get _ _ _ (by omega), show n + ((i - o : Nat) : Int) = (i : Int) + shift by omega]
  | h :: t, o, i, n, shift, hv, h1, h2, h3 => by
    obtain ⟨a1, a2, a3, a4, a5, a6, a7, hv'⟩ := hv
    simp only [trL]
    unfold place
    by_cases c1 : (i : Int) < h.f0
    · rw [if_pos c1, getD_left (by rw [up_len2]; omega), up_get _ _ _ (by omega), show n + ((i - o : Nat) : Int) = (i : Int) + shift by omega]
    · rw [if_neg c1, getD_right (by rw [up_len2]; omega), up_len2]
      by_cases c2 : (i : Int) < h.f0 + h.f1.length
      · rw [if_pos c2, getD_left (by rw [List.length_replicate]; omega)]
        have e : (List.replicate h.f1.length (n + ((h.f0.toNat - o : Nat) : Int), false)).getD (i - o - (h.f0.toNat - o)) (0, false) = (n + ((h.f0.toNat - o : Nat) : Int), false) := by
          rw [List.getD_eq_getElem?_getD, List.getElem?_replicate, if_pos (by omega)]
          rfl
        rw [e, show n + ((h.f0.toNat - o : Nat) : Int) = h.f0 + shift by omega]
      · rw [if_neg c2, getD_right (by rw [List.length_replicate]; omega), List.length_replicate]
        have hv2 : Valid ((h.f0.toNat + h.f1.length : Nat) : Int) t := Valid_mono2 (by omega) hv'
        have := trL_place t (h.f0.toNat + h.f1.length) i (n + ((h.f0.toNat - o : Nat) : Int) + (h.f2.length : Int)) (shift + (h.f2.length - h.f1.length)) hv2 (by omega) h2 (by omega)
        rw [show i - o - (h.f0.toNat - o) - h.f1.length = i - (h.f0.toNat + h.f1.length) by omega]
        exact this
theorem trOk_valid : ∀ (hs : List Hk) (o : Nat), Valid (o : Int) hs → o ≤ 130 → trOk o hs = true
  | [], o, _, h => by simp [trOk, h]
  | h :: t, o, hv, ho => by
    obtain ⟨a1, a2, a3, a4, a5, a6, a7, hv'⟩ := hv
    have l2 := linesV_len a4
    simp only [trOk, Bool.and_eq_true, decide_eq_true_eq]
    exact ⟨⟨by omega, by omega, by omega⟩, trOk_valid t _ (Valid_mono2 (by omega) hv') (by omega)⟩
theorem place_gap {t : List Hk} {b i shift : Int} (hv : Valid b t) (h : i < b) : place t i shift = (i + shift, true) := by
  cases t with
  | nil => rfl
  | cons h' t =>
    obtain ⟨a1, a2, a3, a4, a5, a6, a7, hv'⟩ := hv
    unfold place
    rw [if_pos (by omega)]
theorem revs_invs (T : List (Int × Bool)) : ∀ (t : List Hk) (b j : Nat) (shift : Int), Valid (b : Int) t → j + t.length ≤ 130 → -(1000 * (j : Int)) ≤ shift → shift ≤ 1000 * (j : Int) → (∀ i : Nat, b ≤ i → i < 130 → T.getD i (0, false) = place t (i : Int) shift) →
    revs T t = invs t shift ∧ revOk T t = (invs t shift).all (fun h => decide (h.f0 + (h.f1.length : Int) ≤ 120))
  | [], b, j, shift, _, _, _, _, _ => ⟨rfl, rfl⟩
  | h :: t, b, j, shift, hv, hj, s0, s1, hT => by
    obtain ⟨a1, a2, a3, a4, a5, a6, a7, hv'⟩ := hv
    have l1 := linesV_len a3
    have l2 := linesV_len a4
    rw [List.length_cons] at hj
    have e := hT h.f0.toNat (by omega) (by omega)
    rw [show ((h.f0.toNat : Nat) : Int) = h.f0 by omega] at e
    have hr : revAt T h = h.f0 + shift := by
      unfold revAt
      by_cases c : 0 < h.f1.length
      · rw [if_pos c, e]
        unfold place
        rw [if_neg (by omega), if_pos (by omega)]
      · rw [if_neg c, e]
        unfold place
        rw [if_neg (by omega), if_neg (by omega), place_gap hv' (by omega)]
        show wrap64 (h.f0 + (shift + ((h.f2.length : Int) - (h.f1.length : Int))) - (h.f2.length : Int)) = h.f0 + shift
        rw [w64 (by omega) (by omega)]
        omega
    obtain ⟨ih1, ih2⟩ := revs_invs T t (h.f0.toNat + h.f1.length + 1) (j + 1) (shift + (h.f2.length - h.f1.length)) (Valid_mono2 (by omega) hv') (by omega) (by omega) (by omega) (fun i hi1 hi2 => by
      rw [hT i (by omega) hi2]
      conv => lhs; unfold place
      rw [if_neg (by omega), if_neg (by omega)])
    constructor
    · show (⟨revAt T h, h.f2, h.f1⟩ : Hk) :: revs T t = ⟨h.f0 + shift, h.f2, h.f1⟩ :: invs t (shift + (h.f2.length - h.f1.length))
      rw [hr, ih1]
    · show (decide (wrap64 (revAt T h + (h.f2.length : Int)) ≤ 120) && revOk T t) = (decide (h.f0 + shift + (h.f2.length : Int) ≤ 120) && (invs t (shift + (h.f2.length - h.f1.length))).all (fun h => decide (h.f0 + (h.f1.length : Int) ≤ 120)))
      rw [hr, ih2, w64 (by omega) (by omega)]
theorem invs_valid : ∀ (t : List Hk) (b shift : Int), Valid b t → 0 ≤ b + shift → (∀ h ∈ invs t shift, h.f0 + (h.f1.length : Int) ≤ 120) → Valid (b + shift) (invs t shift)
  | [], b, shift, _, _, _ => trivial
  | h :: t, b, shift, hv, hb, hall => by
    obtain ⟨a1, a2, a3, a4, a5, a6, a7, hv'⟩ := hv
    have h0 := hall ⟨h.f0 + shift, h.f2, h.f1⟩ List.mem_cons_self
    have h0' : h.f0 + shift + (h.f2.length : Int) ≤ 120 := h0
    have ih := invs_valid t (h.f0 + h.f1.length + 1) (shift + (h.f2.length - h.f1.length)) hv' (by omega) (fun x hx => hall x (List.mem_cons_of_mem _ hx))
    rw [show h.f0 + (h.f1.length : Int) + 1 + (shift + ((h.f2.length : Int) - (h.f1.length : Int))) = h.f0 + shift + (h.f2.length : Int) + 1 by omega] at ih
    exact ⟨by show 0 ≤ h.f0 + shift; omega, by show h.f0 + shift ≤ 120; omega, a4, a3, fun e => a5 ⟨e.2, e.1⟩, by show b + shift ≤ h.f0 + shift; omega, h0', ih⟩
theorem Valid_mem : ∀ (t : List Hk) (b : Int), Valid b t → ∀ h ∈ t, h.f0 + (h.f1.length : Int) ≤ 120 ∧ 0 ≤ h.f0 ∧ h.f0 ≤ 120
  | [], b, _, h, hm => by cases hm
  | h :: t, b, hv, x, hm => by
    obtain ⟨a1, a2, a3, a4, a5, a6, a7, hv'⟩ := hv
    rcases List.mem_cons.1 hm with rfl | hm
    · exact ⟨a7, a1, a2⟩
    · exact Valid_mem t _ hv' x hm
theorem Reversed_eq {hs : List Hk} (hz : (patchV hs).1 = 0) (k : Nat) : changeforgeref7_Reversed.f k hs = some (invs hs 0, decide ((patchV (invs hs 0)).1 = 0)) := by
  obtain ⟨_, hm, hv⟩ := patchV_zero hz
  have hp : revPre hs = true := by
    unfold revPre
    simp only [Bool.and_eq_true, decide_eq_true_eq, List.all_eq_true]
    exact ⟨⟨trOk_valid hs 0 hv (by omega), by omega⟩, fun h hh => by have := Valid_mem hs 0 hv h hh; omega⟩
  obtain ⟨e1, e2⟩ := revs_invs (trL hs 0 0) hs 0 0 0 hv (by omega) (by omega) (by omega) (fun i _ hi => by
    have := trL_place hs 0 i 0 0 hv (by omega) hi (by omega)
    rwa [Nat.sub_zero] at this)
  unfold changeforgeref7_Reversed.f
  rw [if_pos hp, e1, e2]
  congr 2
  rw [Bool.eq_iff_iff, List.all_eq_true, decide_eq_true_eq]
  constructor
  · intro h
    have := invs_valid hs 0 0 hv (by omega) (fun x hx => by have := h x hx; simpa using this)
    exact congrArg Prod.fst (patchV_of (by rw [invs_length]; exact hm) this)
  · intro h x hx
    obtain ⟨_, _, hv2⟩ := patchV_zero h
    have := (Valid_mem _ _ hv2 x hx).1
    simpa using this
theorem place_at {hs : List Hk} (hz : (patchV hs).1 = 0) {line : Int} (h0 : 0 ≤ line) (h1 : line < 130) : (trL hs 0 0).getD line.toNat (0, false) = place hs line 0 := by
  obtain ⟨_, hm, hv⟩ := patchV_zero hz
  have := trL_place hs 0 line.toNat 0 0 hv (by omega) (by omega) (by omega)
  rw [Nat.sub_zero, show ((line.toNat : Nat) : Int) = line by omega] at this
  exact this
theorem trace_ok {hs : List Hk} (hz : (patchV hs).1 = 0) : trOk 0 hs = true ∧ hs.length ≤ 1000 := by
  obtain ⟨_, hm, hv⟩ := patchV_zero hz
  exact ⟨trOk_valid hs 0 hv (by omega), by omega⟩
end Go.Proofs.Ytbkdaofddnkaaaa.Pu
