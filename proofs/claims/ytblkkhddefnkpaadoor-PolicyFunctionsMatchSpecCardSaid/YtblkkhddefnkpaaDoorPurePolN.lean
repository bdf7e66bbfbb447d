/- POLICY: the plain law of Normal, and equal policies -/
import Derived.Test.YtblkkhddefnkpaaDoorPPox6
import Derived.Laws.BitsLemmas
import Derived.Test.YtblkkhddefnkpaaDoorPPoz61
import Derived.Test.YtblkkhddefnkpaaDoorPm
/- POLICY: plain law of Validate and Eval -/
set_option linter.unusedVariables false
namespace Go.Proofs.YtblkkhddefnkpaaDoor.Pure
open Go.RowKit Go.Proofs.YtblkkhddefnkpaaDoorW.PrintWords Go.Proofs.YtblkkhddefnkpaaDoorW.PrintLast Go.Proofs.YtblkkhddefnkpaaDoorW.PrintMore Go.Proofs.YtblkkhddefnkpaaDoor.PPo

theorem Ev.succ {α : Type} {g : Nat → Option α} {r : α} (h : Ev (fun k => g (k + 1)) r) : Ev g r := by
  obtain ⟨K, h⟩ := h
  refine ⟨K + 1, fun k hk => ?_⟩
  obtain ⟨j, rfl⟩ : ∃ j, k = j + 1 := ⟨k - 1, by omega⟩
  exact h j (by omega)
theorem Ev.const {α : Type} {g : Nat → Option α} {r : α} (h : ∀ k, g k = some r) : Ev g r := ⟨0, fun k _ => h k⟩
theorem Ev.pos {α : Type} {c : Prop} [Decidable c] {g f : Nat → Option α} {r : α} (hc : c) (h : Ev g r) : Ev (fun n => if c then g n else f n) r := by simpa only [if_pos hc] using h
theorem Ev.neg {α : Type} {c : Prop} [Decidable c] {g f : Nat → Option α} {r : α} (hc : ¬ c) (h : Ev f r) : Ev (fun n => if c then g n else f n) r := by simpa only [if_neg hc] using h
theorem w64 {x : Int} (h0 : -9223372036854775808 ≤ x) (h1 : x ≤ 9223372036854775807) : wrap64 x = x := by unfold wrap64; omega

/-! ### Validate -/
def hi (k : Int) : Int := if k = 1 then 8 else if k = 4 then 7 else 0
def ncode (l : List S62) (n : S47) : Int :=
  if n.f0 < 1 ∨ n.f0 > 7 then 4 else if n.f1 < 0 ∨ n.f1 > hi n.f0 then 3
  else if (n.f0 < 5 ∧ (n.f2 ≠ 0 ∨ n.f3 ≠ 0)) ∨ (n.f0 = 5 ∧ n.f3 ≠ 0) then 5
  else if n.f0 = 5 ∧ ((l.length : Int) = 0 ∨ n.f2 ≠ (l.length : Int) - 1) then 5
  else if n.f0 > 5 ∧ ((l.length : Int) = 0 ∨ n.f3 ≠ (l.length : Int) - 1 ∨ n.f2 ≠ (l.length : Int) - 1 - (rd_T62 l ((l.length : Int) - 1)).f0 ∨ n.f2 < 0) then 5 else 0
def shp (l : List S62) (n : S47) : S62 :=
  if n.f0 < 5 then ⟨1, 1⟩ else if n.f0 = 5 then ⟨1 + (rd_T62 l n.f2).f0, 1 + (rd_T62 l n.f2).f1⟩
  else ⟨1 + (rd_T62 l n.f2).f0 + (rd_T62 l n.f3).f0, mx (1 + (rd_T62 l n.f2).f1) (1 + (rd_T62 l n.f3).f1)⟩
def Inv (l : List S62) : Prop := ∀ j, j < l.length → (1 ≤ (l.getD j z62).f0 ∧ (l.getD j z62).f0 ≤ (j : Int) + 1) ∧ 1 ≤ (l.getD j z62).f1 ∧ (l.getD j z62).f1 ≤ (j : Int) + 1
theorem Inv.rd {l : List S62} (h : Inv l) {i : Int} (h0 : 0 ≤ i) (h1 : i < l.length) : (1 ≤ (rd_T62 l i).f0 ∧ (rd_T62 l i).f0 ≤ i + 1) ∧ 1 ≤ (rd_T62 l i).f1 ∧ (rd_T62 l i).f1 ≤ i + 1 := by
  have := h i.toNat (by omega)
  unfold rd_T62
  omega
theorem Inv.push {l : List S62} (h : Inv l) {s : S62} (h0 : 1 ≤ s.f0 ∧ s.f0 ≤ (l.length : Int) + 1) (h1 : 1 ≤ s.f1 ∧ s.f1 ≤ (l.length : Int) + 1) : Inv (l ++ [s]) := by
  intro j hj
  rw [List.length_append, List.length_singleton] at hj
  rcases Nat.lt_or_ge j l.length with hl | hl
  · have e : (l ++ [s]).getD j z62 = l.getD j z62 := by simp only [List.getD_eq_getElem?_getD, List.getElem?_append_left hl]
    rw [e]
    exact h j hl
  · obtain rfl : j = l.length := by omega
    have e : (l ++ [s]).getD l.length z62 = s := by simp [List.getD_eq_getElem?_getD]
    rw [e]
    exact ⟨h0, h1⟩
theorem code_ok {l : List S62} {n : S47} (h : ncode l n = 0) : (1 ≤ n.f0 ∧ n.f0 ≤ 7) ∧ (0 ≤ n.f1 ∧ n.f1 ≤ hi n.f0) ∧ (n.f0 < 5 → n.f2 = 0 ∧ n.f3 = 0) ∧ (n.f0 = 5 → n.f3 = 0 ∧ (l.length : Int) ≠ 0 ∧ n.f2 = (l.length : Int) - 1) ∧
    (n.f0 > 5 → (l.length : Int) ≠ 0 ∧ n.f3 = (l.length : Int) - 1 ∧ n.f2 = (l.length : Int) - 1 - (rd_T62 l ((l.length : Int) - 1)).f0 ∧ 0 ≤ n.f2) := by
  unfold ncode at h
  split at h
  · omega
  split at h
  · omega
  split at h
  · omega
  split at h
  · omega
  split at h
  · omega
  refine ⟨by omega, by omega, ?_, ?_, ?_⟩ <;> intro <;> omega
theorem kids {l : List S62} {n : S47} (hi : Inv l) (h : ncode l n = 0) (h5 : n.f0 ≥ 5) : (0 ≤ n.f2 ∧ n.f2 < (l.length : Int)) ∧ (n.f0 > 5 → 0 ≤ n.f3 ∧ n.f3 < (l.length : Int)) := by
  obtain ⟨_, _, _, h3, h4⟩ := code_ok h
  by_cases e : n.f0 = 5
  · obtain ⟨_, a, b⟩ := h3 e
    refine ⟨by omega, by omega⟩
  · obtain ⟨a, b, c, d⟩ := h4 (by omega)
    have := hi.rd (i := (l.length : Int) - 1) (by omega) (by omega)
    refine ⟨by omega, fun _ => by omega⟩
theorem shp_inv {l : List S62} {n : S47} (hv : Inv l) (h : ncode l n = 0) : (1 ≤ (shp l n).f0 ∧ (shp l n).f0 ≤ (l.length : Int) + 1) ∧ (1 ≤ (shp l n).f1 ∧ (shp l n).f1 ≤ (l.length : Int) + 1) := by
  have hk := code_ok h
  by_cases h5 : n.f0 < 5
  · have e : shp l n = ⟨1, 1⟩ := by unfold shp; rw [if_pos h5]
    rw [e]
    dsimp only
    omega
  · have hc := kids hv h (by omega)
    have hl := hv.rd hc.1.1 hc.1.2
    by_cases e5 : n.f0 = 5
    · have e : shp l n = ⟨1 + (rd_T62 l n.f2).f0, 1 + (rd_T62 l n.f2).f1⟩ := by unfold shp; rw [if_neg h5, if_pos e5]
      rw [e]
      dsimp only
      omega
    · have hc2 := hc.2 (by omega)
      have hr := hv.rd hc2.1 hc2.2
      obtain ⟨a, b, c, d⟩ := hk.2.2.2.2 (by omega)
      have e : shp l n = ⟨1 + (rd_T62 l n.f2).f0 + (rd_T62 l n.f3).f0, mx (1 + (rd_T62 l n.f2).f1) (1 + (rd_T62 l n.f3).f1)⟩ := by unfold shp; rw [if_neg h5, if_neg e5]
      rw [e]
      dsimp only
      rw [← b] at c
      unfold mx
      split <;> omega
theorem j3_eq (k : Nat) (l : List S62) (hl : l.length ≤ 24) (hv : Inv l) (x : Bool) (a b c d : Int) : qu_.j3 (k + 1) l (l.length : Int) x a b c d = some (if x = true then 5 else if a > 5 ∧ ((l.length : Int) = 0 ∨ d ≠ (l.length : Int) - 1 ∨ c ≠ (l.length : Int) - 1 - (rd_T62 l ((l.length : Int) - 1)).f0 ∨ c < 0) then 5 else 0) := by
  have e1 : wrap64 ((l.length : Int) - 1) = (l.length : Int) - 1 := w64 (by omega) (by omega)
  rw [qu_.j3]
  rw [e1]
  by_cases hx : x = true
  · rw [if_pos hx, if_pos hx]
  rw [if_neg hx, if_neg hx]
  by_cases ha : a > 5
  · rw [if_pos ha]
    by_cases h0 : (l.length : Int) = 0
    · rw [if_pos h0, if_pos (by omega)]
    rw [if_neg h0]
    have hr := hv.rd (i := (l.length : Int) - 1) (by omega) (by omega)
    have e2 : wrap64 ((l.length : Int) - 1 - (rd_T62 l ((l.length : Int) - 1)).f0) = (l.length : Int) - 1 - (rd_T62 l ((l.length : Int) - 1)).f0 := w64 (by omega) (by omega)
    rw [e2]
    by_cases h1 : d = (l.length : Int) - 1
    · rw [if_pos h1, if_pos (by omega), if_pos (by omega)]
      by_cases h2 : c = (l.length : Int) - 1 - (rd_T62 l ((l.length : Int) - 1)).f0
      · rw [if_pos h2]
        by_cases h3 : c < 0
        · rw [if_pos h3, if_pos (by omega)]
        · rw [if_neg h3, if_neg (by omega)]
      · rw [if_neg h2, if_pos (by omega)]
    · rw [if_neg h1, if_pos (by omega)]
  · rw [if_neg ha, if_neg (by omega)]
theorem nodeCode_eq (k : Nat) (l : List S62) (hl : l.length ≤ 24) (hv : Inv l) (n : S47) : qu_.f (k + 4) n.f0 n.f1 n.f2 n.f3 l = some (ncode l n) := by
  have e1 : wrap64 ((l.length : Int) - 1) = (l.length : Int) - 1 := w64 (by omega) (by omega)
  have J3 := j3_eq k l hl hv
  have J2 : ∀ x, qu_.j2 (k + 2) l (l.length : Int) x n.f0 n.f1 n.f2 n.f3 = some (if x = true then 5 else if n.f0 = 5 ∧ ((l.length : Int) = 0 ∨ n.f2 ≠ (l.length : Int) - 1) then 5
      else if n.f0 > 5 ∧ ((l.length : Int) = 0 ∨ n.f3 ≠ (l.length : Int) - 1 ∨ n.f2 ≠ (l.length : Int) - 1 - (rd_T62 l ((l.length : Int) - 1)).f0 ∨ n.f2 < 0) then 5 else 0) := by
    intro x
    rw [qu_.j2]
    rw [J3, J3, J3, e1]
    by_cases hx : x = true
    · rw [if_pos hx, if_pos hx]
    rw [if_neg hx, if_neg hx]
    by_cases ha : n.f0 = 5
    · rw [if_pos ha]
      by_cases h0 : (l.length : Int) = 0
      · rw [if_pos h0, if_pos rfl, if_pos (c := n.f0 = 5 ∧ _) ⟨ha, .inl h0⟩]
      · rw [if_neg h0]
        by_cases h1 : n.f2 = (l.length : Int) - 1
        · rw [if_neg (by rw [h1]; simp), if_neg (by omega), if_neg (by omega)]
        · rw [if_pos (by simpa using h1), if_pos (by omega)]
    · rw [if_neg ha, if_neg (by simp), if_neg (c := n.f0 = 5 ∧ _) (by omega)]
  have J1 : ∀ x, qu_.j1 (k + 3) l (l.length : Int) x n.f0 n.f1 n.f2 n.f3 = some (if x = true then 3 else if (n.f0 < 5 ∧ (n.f2 ≠ 0 ∨ n.f3 ≠ 0)) ∨ (n.f0 = 5 ∧ n.f3 ≠ 0) then 5 else if n.f0 = 5 ∧ ((l.length : Int) = 0 ∨ n.f2 ≠ (l.length : Int) - 1) then 5
      else if n.f0 > 5 ∧ ((l.length : Int) = 0 ∨ n.f3 ≠ (l.length : Int) - 1 ∨ n.f2 ≠ (l.length : Int) - 1 - (rd_T62 l ((l.length : Int) - 1)).f0 ∨ n.f2 < 0) then 5 else 0) := by
    intro x
    rw [qu_.j1]
    rw [J2, J2, J2]
    by_cases hx : x = true
    · rw [if_pos hx, if_pos hx]
    rw [if_neg hx, if_neg hx]
    by_cases ha : n.f0 < 5
    · rw [if_pos ha]
      by_cases h2 : n.f2 = 0
      · rw [if_pos h2]
        by_cases h3 : n.f3 = 0
        · rw [if_pos h3, if_neg (c := n.f0 = 5) (by omega), if_neg (c := false = true) (by simp), if_neg (c := (n.f0 < 5 ∧ _) ∨ _) (by omega)]
        · rw [if_neg h3, if_pos rfl, if_pos (by omega)]
      · rw [if_neg h2, if_pos rfl, if_pos (by omega)]
    · rw [if_neg ha]
      by_cases h5 : n.f0 = 5
      · rw [if_pos h5]
        by_cases h3 : n.f3 = 0
        · rw [if_neg (c := (n.f3 != 0) = true) (by rw [h3]; simp), if_neg (c := (n.f0 < 5 ∧ _) ∨ _) (by omega)]
        · rw [if_pos (c := (n.f3 != 0) = true) (by simpa using h3), if_pos (by omega)]
      · rw [if_neg h5, if_neg (c := false = true) (by simp), if_neg (c := (n.f0 < 5 ∧ _) ∨ _) (by omega)]
  have J0 : ∀ x, qu_.j0 (k + 4) l (l.length : Int) x n.f0 n.f1 n.f2 n.f3 = some (if x = true then 4 else if n.f1 < 0 ∨ n.f1 > hi n.f0 then 3 else if (n.f0 < 5 ∧ (n.f2 ≠ 0 ∨ n.f3 ≠ 0)) ∨ (n.f0 = 5 ∧ n.f3 ≠ 0) then 5 else if n.f0 = 5 ∧ ((l.length : Int) = 0 ∨ n.f2 ≠ (l.length : Int) - 1) then 5
      else if n.f0 > 5 ∧ ((l.length : Int) = 0 ∨ n.f3 ≠ (l.length : Int) - 1 ∨ n.f2 ≠ (l.length : Int) - 1 - (rd_T62 l ((l.length : Int) - 1)).f0 ∨ n.f2 < 0) then 5 else 0) := by
    intro x
    have eh : policy_highest.f n.f0 = some (hi n.f0) := by
      unfold policy_highest.f hi
      split
      · rfl
      · split <;> rfl
    rw [qu_.j0]
    rw [J1, eh, Option.bind_some, J1]
    by_cases hx : x = true
    · rw [if_pos hx, if_pos hx]
    rw [if_neg hx, if_neg hx]
    by_cases ha : n.f1 < 0
    · rw [if_pos ha, if_pos rfl, if_pos (by omega)]
    · rw [if_neg ha]
      by_cases hb : n.f1 > hi n.f0
      · rw [if_pos (c := decide _ = true) (decide_eq_true hb), if_pos (c := n.f1 < 0 ∨ _) (.inr hb)]
      · rw [if_neg (c := decide _ = true) (by simpa using hb), if_neg (c := n.f1 < 0 ∨ _) (by omega)]
  unfold qu_.f ncode
  rw [J0, J0]
  by_cases ha : n.f0 < 1
  · rw [if_pos ha, if_pos rfl, if_pos (by omega)]
  · rw [if_neg ha]
    by_cases hb : n.f0 > 7
    · rw [if_pos (c := decide _ = true) (decide_eq_true hb), if_pos (c := n.f0 < 1 ∨ _) (.inr hb)]
    · rw [if_neg (c := decide _ = true) (by simpa using hb), if_neg (c := n.f0 < 1 ∨ _) (by omega)]
theorem nodeCode_ev (l : List S62) (hl : l.length ≤ 24) (hv : Inv l) (n : S47) : Ev (fun k => qu_.f k n.f0 n.f1 n.f2 n.f3 l) (ncode l n) := ⟨4, fun k hk => by
  obtain ⟨j, rfl⟩ : ∃ j, k = j + 4 := ⟨k - 4, by omega⟩
  exact nodeCode_eq j l hl hv n⟩
theorem shapeOf_eq (l : List S62) (hl : l.length ≤ 24) (hv : Inv l) (n : S47) (h : ncode l n = 0) : policy_shapeOf.f n.f0 n.f1 n.f2 n.f3 l = some ((shp l n).f0, (shp l n).f1) := by
  unfold policy_shapeOf.f
  by_cases h5 : n.f0 ≥ 5
  · have hc := kids hv h h5
    have hx := hv.rd hc.1.1 hc.1.2
    have w1 : wrap64 (1 + (rd_T62 l n.f2).f0) = 1 + (rd_T62 l n.f2).f0 := w64 (by omega) (by omega)
    have w2 : wrap64 (1 + (rd_T62 l n.f2).f1) = 1 + (rd_T62 l n.f2).f1 := w64 (by omega) (by omega)
    rw [if_pos h5, if_pos hc.1.1, if_pos hc.1.2, w1, w2]
    by_cases h6 : n.f0 > 5
    · have hd := hc.2 h6
      have hy := hv.rd hd.1 hd.2
      have w3 : wrap64 (1 + (rd_T62 l n.f2).f0 + (rd_T62 l n.f3).f0) = 1 + (rd_T62 l n.f2).f0 + (rd_T62 l n.f3).f0 := w64 (by omega) (by omega)
      have w4 : wrap64 (1 + (rd_T62 l n.f3).f1) = 1 + (rd_T62 l n.f3).f1 := w64 (by omega) (by omega)
      rw [if_pos h6, if_pos hd.1, if_pos hd.2, w3, w4]
      unfold shp
      rw [if_neg (by omega), if_neg (by omega)]
    · rw [if_neg h6]
      unfold shp
      rw [if_neg (by omega), if_pos (by omega)]
  · rw [if_neg h5, if_neg (by omega)]
    unfold shp
    rw [if_pos (by omega)]
def valL (N : Nat) : List S62 → List S47 → Int × Int
  | l, [] => if (rd_T62 l ((l.length : Int) - 1)).f0 = (N : Int) then (if (rd_T62 l ((l.length : Int) - 1)).f1 > 12 then (10, -1) else (0, 0)) else (5, -1)
  | l, n :: t => if ncode l n = 0 then valL N (l ++ [shp l n]) t else (ncode l n, (l.length : Int))
def polV (ns : List S47) : Int × Int := if (ns.length : Int) = 0 then (9, -1) else if (ns.length : Int) > 24 then (2, -1) else valL ns.length [] ns
theorem rd_mid {pre rest : List S47} {n : S47} : qj_ (pre ++ n :: rest) (pre.length : Int) = n := by
  unfold qj_
  rw [Int.toNat_natCast, List.getD_eq_getElem?_getD, List.getElem?_append_right (Nat.le_refl _), Nat.sub_self]
  rfl
theorem val_l0_ev : ∀ (rest pre : List S47) (l : List S62), pre.length = l.length → (pre ++ rest).length ≤ 24 → (pre ++ rest).length ≠ 0 → Inv l →
    Ev (fun k => qw_.l0 k l (pre ++ rest) ((pre ++ rest).length : Int) (l.length : Int) (pre ++ rest)) (valL (pre ++ rest).length l rest) := by
  intro rest
  induction rest with
  | nil =>
    intro pre l hp hn h0 hv
    rw [List.append_nil] at *
    refine Ev.succ ?_
    unfold qw_.l0 valL
    have e1 : wrap64 ((l.length : Int) - 1) = (l.length : Int) - 1 := w64 (by omega) (by omega)
    refine Ev.neg (by omega) ?_
    rw [e1]
    refine Ev.pos (by omega) (Ev.pos (by omega) ?_)
    by_cases h1 : (rd_T62 l ((l.length : Int) - 1)).f0 = (pre.length : Int)
    · by_cases h2 : (rd_T62 l ((l.length : Int) - 1)).f1 > 12
      · simp only [if_pos h1, if_pos h2]; exact Ev.now _
      · simp only [if_pos h1, if_neg h2]; exact Ev.now _
    · simp only [if_neg h1]; exact Ev.now _
  | cons n t ih =>
    intro pre l hp hn h0 hv
    have hlen : (pre ++ n :: t).length = pre.length + (t.length + 1) := by rw [List.length_append, List.length_cons]
    have hl : l.length ≤ 24 := by omega
    refine Ev.succ ?_
    unfold qw_.l0 valL
    have er : qj_ (pre ++ n :: t) (l.length : Int) = n := by rw [← hp]; exact rd_mid
    have e1 : wrap64 ((l.length : Int) + 1) = ((l.length + 1 : Nat) : Int) := by rw [w64 (by omega) (by omega)]; omega
    rw [er, e1]
    refine Ev.pos (by omega) (Ev.pos (by omega) (Ev.pos (by omega) (Ev.bind (nodeCode_ev l hl hv n) ?_)))
    by_cases hc : ncode l n = 0
    · rw [if_pos hc]
      refine Ev.pos hc ?_
      refine Ev.congr (f := fun k => qw_.l0 k (l ++ [shp l n]) (pre ++ n :: t) ((pre ++ n :: t).length : Int) ((l.length + 1 : Nat) : Int) (pre ++ n :: t)) (fun k => ?_) ?_
      · rw [shapeOf_eq l hl hv n hc, Option.bind_some, if_pos (by omega)]
      · have := ih (pre ++ [n]) (l ++ [shp l n]) (by simp [hp]) (by simpa using hn) (by simp) (hv.push (shp_inv hv hc).1 (shp_inv hv hc).2)
        rw [List.append_assoc, List.singleton_append] at this
        simpa only [List.length_append, List.length_singleton] using this
    · rw [if_neg hc]
      exact Ev.neg hc (Ev.now _)
theorem Validate_ev (ns : List S47) : Ev (fun k => qw_.f k ns) (polV ns) := by
  unfold qw_.f polV
  by_cases h0 : (ns.length : Int) = 0
  · rw [if_pos h0]; exact Ev.pos h0 (Ev.now _)
  rw [if_neg h0]
  refine Ev.neg h0 ?_
  by_cases h1 : (ns.length : Int) > 24
  · rw [if_pos h1]; exact Ev.pos h1 (Ev.now _)
  rw [if_neg h1]
  refine Ev.neg h1 ?_
  exact val_l0_ev ns [] [] rfl (by simpa using (by omega : ns.length ≤ 24)) (by rw [List.nil_append]; omega) (fun j hj => absurd hj (by simp))

/-! ### Eval -/
/-- Each node is in order behind those in front of it. -/
def okL : List S62 → List S47 → Prop
  | _, [] => True
  | l, n :: t => ncode l n = 0 ∧ okL (l ++ [shp l n]) t
theorem okL_of_val {N : Nat} : ∀ (rest : List S47) (l : List S62), valL N l rest = (0, 0) → okL l rest := by
  intro rest
  induction rest with
  | nil => intro l _; trivial
  | cons n t ih =>
    intro l h
    unfold valL at h
    by_cases hc : ncode l n = 0
    · rw [if_pos hc] at h
      exact ⟨hc, ih _ h⟩
    · rw [if_neg hc] at h
      exact absurd (congrArg Prod.fst h) hc
theorem polV_ok {ns : List S47} (h : polV ns = (0, 0)) : 0 < ns.length ∧ ns.length ≤ 24 ∧ okL [] ns ∧ valL ns.length [] ns = (0, 0) := by
  unfold polV at h
  split at h
  · exact absurd (congrArg Prod.fst h) (by decide)
  split at h
  · exact absurd (congrArg Prod.fst h) (by decide)
  exact ⟨by omega, by omega, okL_of_val _ _ h, h⟩
theorem valL_zero {N : Nat} : ∀ (rest : List S47) (l : List S62), (valL N l rest).1 = 0 → valL N l rest = (0, 0) := by
  intro rest
  induction rest with
  | nil =>
    intro l h
    unfold valL at h ⊢
    split at h
    · split at h
      · exact absurd h (by decide)
      · rename_i h1 h2
        rw [if_pos h1, if_neg h2]
    · exact absurd h (by decide)
  | cons n t ih =>
    intro l h
    unfold valL at h ⊢
    by_cases hc : ncode l n = 0
    · rw [if_pos hc] at h ⊢
      exact ih _ h
    · rw [if_neg hc] at h
      exact absurd h hc
theorem polV_zero {ns : List S47} (h : (polV ns).1 = 0) : polV ns = (0, 0) := by
  unfold polV at h ⊢
  split at h
  · exact absurd h (by decide)
  split at h
  · exact absurd h (by decide)
  rename_i h1 h2
  rw [if_neg h1, if_neg h2]
  exact valL_zero _ _ h
def bitB (u j : Int) : Bool := (Go.bits .and .i64 (shr .i64 u j) 1) == 1
def evN (v : List Bool) (n : S47) (a0 : Int) (a1 a2 : Bool) (a3 : Int) : Bool :=
  if n.f0 = 1 then decide (a0 ≥ n.f1) else if n.f0 = 2 then a1 else if n.f0 = 3 then a2 else if n.f0 = 4 then bitB a3 n.f1
  else if n.f0 = 5 then !(rdOf false v n.f2) else if n.f0 = 6 then (rdOf false v n.f2 && rdOf false v n.f3) else (rdOf false v n.f2 || rdOf false v n.f3)
def evL (a0 : Int) (a1 a2 : Bool) (a3 : Int) : List Bool → List S47 → List Bool
  | v, [] => v
  | v, n :: t => evL a0 a1 a2 a3 (v ++ [evN v n a0 a1 a2 a3]) t
theorem eval_l0_ev (a0 : Int) (a1 a2 : Bool) (a3 : Int) : ∀ (rest pre : List S47) (l : List S62) (v : List Bool), pre.length = l.length → v.length = l.length → (pre ++ rest).length ≤ 24 → (pre ++ rest).length ≠ 0 → Inv l → okL l rest →
    Ev (fun k => qC_.l0 k v (pre ++ rest) ((pre ++ rest).length : Int) (l.length : Int) a0 a1 a2 a3) (rdOf false (evL a0 a1 a2 a3 v rest) (((pre ++ rest).length : Int) - 1), 0, 0) := by
  intro rest
  induction rest with
  | nil =>
    intro pre l v hp hvl hn h0 hv _
    rw [List.append_nil] at *
    refine Ev.succ ?_
    unfold qC_.l0 evL
    have e1 : wrap64 ((v.length : Int) - 1) = (v.length : Int) - 1 := w64 (by omega) (by omega)
    refine Ev.neg (by omega) ?_
    rw [e1]
    refine Ev.pos (by omega) (Ev.pos (by omega) ?_)
    have e2 : (v.length : Int) - 1 = (pre.length : Int) - 1 := by omega
    rw [e2]
    exact Ev.now _
  | cons n t ih =>
    intro pre l v hp hvl hn h0 hv hok
    have hlen : (pre ++ n :: t).length = pre.length + (t.length + 1) := by rw [List.length_append, List.length_cons]
    have hc := hok.1
    have hk := code_ok hc
    refine Ev.succ ?_
    unfold qC_.l0 evL
    have er : qj_ (pre ++ n :: t) (l.length : Int) = n := by rw [← hp]; exact rd_mid
    have e1 : wrap64 ((l.length : Int) + 1) = ((l.length + 1 : Nat) : Int) := by rw [w64 (by omega) (by omega)]; omega
    have hvs : v.length < 140737488355328 := by omega
    rw [er]
    refine Ev.pos (by omega) (Ev.pos (by omega) (Ev.pos (by omega) ?_))
    have key : ∀ b, b = evN v n a0 a1 a2 a3 → Ev (fun k => qC_.l0 k (v ++ [b]) (pre ++ n :: t) ((pre ++ n :: t).length : Int) ((l.length + 1 : Nat) : Int) a0 a1 a2 a3)
        (rdOf false (evL a0 a1 a2 a3 (v ++ [evN v n a0 a1 a2 a3]) t) (((pre ++ n :: t).length : Int) - 1), 0, 0) := by
      intro b hb
      subst hb
      have := ih (pre ++ [n]) (l ++ [shp l n]) (v ++ [evN v n a0 a1 a2 a3]) (by simp [hp]) (by simp [hvl]) (by simpa using hn) (by simp) (hv.push (shp_inv hv hc).1 (shp_inv hv hc).2) hok.2
      rw [List.append_assoc, List.singleton_append] at this
      simpa only [List.length_append, List.length_singleton] using this
    have jk : ∀ (b : Bool) (r : Bool × Int × Int), Ev (fun k => qC_.l0 k (v ++ [b]) (pre ++ n :: t) ((pre ++ n :: t).length : Int) ((l.length + 1 : Nat) : Int) a0 a1 a2 a3) r → Ev (fun k => qC_.j2 k v b (pre ++ n :: t) ((pre ++ n :: t).length : Int) (l.length : Int) a0 a1 a2 a3) r := by
      intro b r h
      refine Ev.succ ?_
      simp only [qC_.j2, e1]
      exact Ev.pos hvs h
    by_cases k1 : n.f0 = 1
    · exact Ev.pos k1 (jk _ _ (key _ (by unfold evN; rw [if_pos k1])))
    refine Ev.neg k1 ?_
    by_cases k2 : n.f0 = 2
    · exact Ev.pos k2 (jk _ _ (key _ (by unfold evN; rw [if_neg k1, if_pos k2])))
    refine Ev.neg k2 ?_
    by_cases k3 : n.f0 = 3
    · exact Ev.pos k3 (jk _ _ (key _ (by unfold evN; rw [if_neg k1, if_neg k2, if_pos k3])))
    refine Ev.neg k3 ?_
    by_cases k4 : n.f0 = 4
    · exact Ev.pos k4 (Ev.pos hk.2.1.1 (jk _ _ (key _ (by unfold evN bitB; rw [if_neg k1, if_neg k2, if_neg k3, if_pos k4]))))
    refine Ev.neg k4 ?_
    have hc5 := kids hv hc (by omega)
    by_cases k5 : n.f0 = 5
    · exact Ev.pos k5 (Ev.pos hc5.1.1 (Ev.pos (by omega) (jk _ _ (key _ (by unfold evN; rw [if_neg k1, if_neg k2, if_neg k3, if_neg k4, if_pos k5])))))
    refine Ev.neg k5 ?_
    have hc6 := hc5.2 (by omega)
    by_cases k6 : n.f0 = 6
    · refine Ev.pos k6 (Ev.pos hc5.1.1 (Ev.pos (by omega) ?_))
      by_cases hb : rdOf false v n.f2 = true
      · exact Ev.pos hb (Ev.pos hc6.1 (Ev.pos (by omega) (jk _ _ (key _ (by unfold evN; rw [if_neg k1, if_neg k2, if_neg k3, if_neg k4, if_neg k5, if_pos k6, hb, Bool.true_and])))))
      · exact Ev.neg hb (jk _ _ (key _ (by unfold evN; rw [if_neg k1, if_neg k2, if_neg k3, if_neg k4, if_neg k5, if_pos k6, Bool.eq_false_iff.mpr hb, Bool.false_and])))
    refine Ev.neg k6 (Ev.pos hc5.1.1 (Ev.pos (by omega) ?_))
    by_cases hb : rdOf false v n.f2 = true
    · exact Ev.pos hb (jk _ _ (key _ (by unfold evN; rw [if_neg k1, if_neg k2, if_neg k3, if_neg k4, if_neg k5, if_neg k6, hb, Bool.true_or])))
    · exact Ev.neg hb (Ev.pos hc6.1 (Ev.pos (by omega) (jk _ _ (key _ (by unfold evN; rw [if_neg k1, if_neg k2, if_neg k3, if_neg k4, if_neg k5, if_neg k6, Bool.eq_false_iff.mpr hb, Bool.false_or])))))
def badF (a0 a3 : Int) : Prop := a0 < -1000000000 ∨ a0 > 1000000000 ∨ a3 < 0 ∨ a3 ≥ 256
instance (a0 a3 : Int) : Decidable (badF a0 a3) := by unfold badF; infer_instance
def polVal (ns : List S47) (a0 : Int) (a1 a2 : Bool) (a3 : Int) : Bool := rdOf false (evL a0 a1 a2 a3 [] ns) ((ns.length : Int) - 1)
def polE (ns : List S47) (a0 : Int) (a1 a2 : Bool) (a3 : Int) : Bool × Int × Int :=
  if polV ns = (0, 0) then (if badF a0 a3 then (false, 3, -2) else (polVal ns a0 a1 a2 a3, 0, 0)) else (false, (polV ns).1, (polV ns).2)
theorem Eval_ev (ns : List S47) (a0 : Int) (a1 a2 : Bool) (a3 : Int) : Ev (fun k => qC_.f k ns a0 a1 a2 a3) (polE ns a0 a1 a2 a3) := by
  unfold qC_.f polE
  refine Ev.bind (Validate_ev ns) ?_
  by_cases hv : polV ns = (0, 0)
  · rw [if_pos hv]
    refine Ev.pos (by rw [hv]; rfl) ?_
    obtain ⟨h0, h1, hok, _⟩ := polV_ok hv
    have J : ∀ x : Bool, (x = true ↔ badF a0 a3) → Ev (fun k => qC_.j0 k x ns a0 a1 a2 a3) (if badF a0 a3 then (false, 3, -2) else (polVal ns a0 a1 a2 a3, 0, 0)) := by
      intro x hx
      refine Ev.succ ?_
      unfold qC_.j0
      by_cases hb : badF a0 a3
      · rw [if_pos hb]
        exact Ev.pos (hx.mpr hb) (Ev.now _)
      · rw [if_neg hb]
        refine Ev.neg (fun e => hb (hx.mp e)) ?_
        exact eval_l0_ev a0 a1 a2 a3 ns [] [] [] rfl rfl (by simpa using h1) (by rw [List.nil_append]; omega) (fun j hj => absurd hj (by simp)) hok
    by_cases b1 : a0 < -1000000000
    · exact Ev.pos b1 (J true (by simp only [true_iff]; exact .inl b1))
    refine Ev.neg b1 ?_
    by_cases b2 : a0 > 1000000000
    · exact Ev.pos b2 (J true (by simp only [true_iff]; exact .inr (.inl b2)))
    refine Ev.neg b2 ?_
    by_cases b3 : a3 < 0
    · exact Ev.pos b3 (J true (by simp only [true_iff]; exact .inr (.inr (.inl b3))))
    refine Ev.neg b3 (J _ ?_)
    rw [decide_eq_true_iff]
    unfold badF
    omega
  · rw [if_neg hv]
    refine Ev.neg (fun e => hv ?_) (Ev.now _)
    rw [Bool.and_eq_true, beq_iff_eq, beq_iff_eq] at e
    exact Prod.ext e.1 e.2
end Go.Proofs.YtblkkhddefnkpaaDoor.Pure
/- POLICY: valid lists are trees in postorder -/
namespace Go.Proofs.YtblkkhddefnkpaaDoor.Pure
open Go.RowKit Go.Proofs.YtblkkhddefnkpaaDoorW.PrintWords Go.Proofs.YtblkkhddefnkpaaDoorW.PrintLast Go.Proofs.YtblkkhddefnkpaaDoorW.PrintMore Go.Proofs.YtblkkhddefnkpaaDoor.PPo
set_option linter.unusedVariables false
inductive T where
  | leaf (k n : Int) : T
  | neg (t : T) : T
  | bin (k : Int) (l r : T) : T
def T.size : T → Nat
  | .leaf _ _ => 1
  | .neg t => t.size + 1
  | .bin _ l r => l.size + r.size + 1
def T.depth : T → Nat
  | .leaf _ _ => 1
  | .neg t => t.depth + 1
  | .bin _ l r => max l.depth r.depth + 1
def T.ok : T → Prop
  | .leaf k n => 1 ≤ k ∧ k ≤ 4 ∧ 0 ≤ n ∧ n ≤ hi k
  | .neg t => t.ok
  | .bin k l r => (k = 6 ∨ k = 7) ∧ l.ok ∧ r.ok
def T.kind : T → Int
  | .leaf k _ => k
  | .neg _ => 5
  | .bin k _ _ => k
/-- The last node of t's list, where the list starts at b. -/
def T.root (b : Nat) : T → S47
  | .leaf k n => ⟨k, n, 0, 0⟩
  | .neg t => ⟨5, 0, (b : Int) + t.size - 1, 0⟩
  | .bin k l r => ⟨k, 0, (b : Int) + l.size - 1, (b : Int) + l.size + r.size - 1⟩
def lay : Nat → T → List S47
  | b, .leaf k n => [⟨k, n, 0, 0⟩]
  | b, .neg t => lay b t ++ [⟨5, 0, (b : Int) + t.size - 1, 0⟩]
  | b, .bin k l r => lay b l ++ lay (b + l.size) r ++ [⟨k, 0, (b : Int) + l.size - 1, (b : Int) + l.size + r.size - 1⟩]
theorem T.size_pos : ∀ t : T, 1 ≤ t.size := by intro t; cases t <;> simp only [T.size] <;> omega
theorem lay_length : ∀ (t : T) (b : Nat), (lay b t).length = t.size := by
  intro t
  induction t with
  | leaf k n => intro b; rfl
  | neg t ih => intro b; simp only [lay, T.size, List.length_append, List.length_singleton, ih]
  | bin k l r ihl ihr => intro b; simp only [lay, T.size, List.length_append, List.length_singleton, ihl, ihr]
theorem lay_root (t : T) (b : Nat) : ∃ p, lay b t = p ++ [T.root b t] ∧ p.length = t.size - 1 := by
  cases t with
  | leaf k n => exact ⟨[], rfl, rfl⟩
  | neg t => exact ⟨lay b t, rfl, by rw [lay_length]; simp only [T.size]; omega⟩
  | bin k l r => exact ⟨lay b l ++ lay (b + l.size) r, rfl, by rw [List.length_append, lay_length, lay_length]; simp only [T.size]; omega⟩
/-! ### folds over the nodes -/
section
variable {α : Type} (f : List α → S47 → α)
def fold : List α → List S47 → List α
  | l, [] => l
  | l, n :: t => fold (l ++ [f l n]) t
theorem fold_append : ∀ (xs ys : List S47) (l : List α), fold f l (xs ++ ys) = fold f (fold f l xs) ys := by
  intro xs
  induction xs with
  | nil => intro ys l; rfl
  | cons x t ih => intro ys l; simp only [List.cons_append, fold, ih]
variable (lf : Int → Int → α) (ng : α → α) (bn : Int → α → α → α)
def cata : T → α
  | .leaf k n => lf k n
  | .neg t => ng (cata t)
  | .bin k l r => bn k (cata l) (cata r)
def outs : T → List α
  | .leaf k n => [lf k n]
  | .neg t => outs t ++ [ng (cata lf ng bn t)]
  | .bin k l r => outs l ++ outs r ++ [bn k (cata lf ng bn l) (cata lf ng bn r)]
theorem outs_length : ∀ t : T, (outs lf ng bn t).length = t.size := by
  intro t
  induction t with
  | leaf k n => rfl
  | neg t ih => simp only [outs, T.size, List.length_append, List.length_singleton, ih]
  | bin k l r ihl ihr => simp only [outs, T.size, List.length_append, List.length_singleton, ihl, ihr]
theorem outs_last : ∀ t : T, ∃ p, outs lf ng bn t = p ++ [cata lf ng bn t] ∧ p.length = t.size - 1 := by
  intro t
  cases t with
  | leaf k n => exact ⟨[], rfl, rfl⟩
  | neg t => exact ⟨outs lf ng bn t, rfl, by rw [outs_length]; simp only [T.size]; omega⟩
  | bin k l r => exact ⟨outs lf ng bn l ++ outs lf ng bn r, rfl, by rw [List.length_append, outs_length, outs_length]; simp only [T.size]; omega⟩
theorem outs_at (d : α) (l m : List α) (t : T) : (l ++ outs lf ng bn t ++ m).getD (l.length + t.size - 1) d = cata lf ng bn t := by
  obtain ⟨p, e, hp⟩ := outs_last lf ng bn t
  have := t.size_pos
  rw [e, List.getD_eq_getElem?_getD, List.append_assoc, List.getElem?_append_right (by omega), List.append_assoc, List.getElem?_append_right (by omega)]
  rw [show l.length + t.size - 1 - l.length - p.length = 0 by omega]
  rfl
variable (d : α) (H0 : ∀ l k n, 1 ≤ k → k ≤ 4 → f l ⟨k, n, 0, 0⟩ = lf k n) (H5 : ∀ l (i : Nat), f l ⟨5, 0, (i : Int), 0⟩ = ng (l.getD i d))
  (H6 : ∀ l k (i j : Nat), k = 6 ∨ k = 7 → f l ⟨k, 0, (i : Int), (j : Int)⟩ = bn k (l.getD i d) (l.getD j d))
include H0 H5 H6
theorem fold_lay : ∀ (t : T), t.ok → ∀ (l : List α), fold f l (lay l.length t) = l ++ outs lf ng bn t := by
  intro t
  induction t with
  | leaf k n => intro h l; simp only [lay, fold, outs, H0 l k n h.1 h.2.1]
  | neg t ih =>
    intro h l
    have h1 := t.size_pos
    simp only [lay, fold_append, ih h, fold, outs]
    have e : (l.length : Int) + t.size - 1 = ((l.length + t.size - 1 : Nat) : Int) := by omega
    rw [e, H5]
    have := outs_at lf ng bn d l [] t
    rw [List.append_nil] at this
    rw [this, List.append_assoc]
  | bin k a b iha ihb =>
    intro h l
    have h1 := a.size_pos
    have h2 := b.size_pos
    have := ihb h.2.2 (l ++ outs lf ng bn a)
    rw [List.length_append, outs_length] at this
    simp only [lay, fold_append, iha h.2.1, this, fold, outs]
    have e : (l.length : Int) + a.size - 1 = ((l.length + a.size - 1 : Nat) : Int) := by omega
    have e2 : (l.length : Int) + a.size + b.size - 1 = ((l.length + a.size + b.size - 1 : Nat) : Int) := by omega
    rw [e, e2, H6 _ _ _ _ h.1]
    have g := outs_at lf ng bn d l (outs lf ng bn b) a
    have g2 := outs_at lf ng bn d (l ++ outs lf ng bn a) [] b
    rw [List.append_nil, List.length_append, outs_length] at g2
    rw [g, g2]
    simp only [List.append_assoc]
end
/-! ### shapes -/
def shc : T → S62 := cata (fun _ _ => ⟨1, 1⟩) (fun s => ⟨1 + s.f0, 1 + s.f1⟩) (fun _ s r => ⟨1 + s.f0 + r.f0, mx (1 + s.f1) (1 + r.f1)⟩)
def sho : T → List S62 := outs (fun _ _ => ⟨1, 1⟩) (fun s => ⟨1 + s.f0, 1 + s.f1⟩) (fun _ s r => ⟨1 + s.f0 + r.f0, mx (1 + s.f1) (1 + r.f1)⟩)
theorem shc_eq : ∀ t : T, shc t = ⟨(t.size : Int), (t.depth : Int)⟩ := by
  intro t
  induction t with
  | leaf k n => rfl
  | neg t ih =>
    show (⟨1 + (shc t).f0, 1 + (shc t).f1⟩ : S62) = _
    rw [ih]
    simp only [T.size, T.depth, S62.mk.injEq]
    omega
  | bin k l r ihl ihr =>
    show (⟨1 + (shc l).f0 + (shc r).f0, mx (1 + (shc l).f1) (1 + (shc r).f1)⟩ : S62) = _
    rw [ihl, ihr]
    simp only [T.size, T.depth, S62.mk.injEq]
    unfold mx
    split <;> omega
theorem sho_length (t : T) : (sho t).length = t.size := outs_length _ _ _ t
theorem sho_at (l m : List S62) (t : T) : (l ++ sho t ++ m).getD (l.length + t.size - 1) z62 = ⟨(t.size : Int), (t.depth : Int)⟩ := by
  rw [← shc_eq]
  exact outs_at _ _ _ z62 l m t
theorem sho_rd (l m : List S62) (t : T) (i : Int) (hi : i = (l.length : Int) + t.size - 1) : rd_T62 (l ++ sho t ++ m) i = ⟨(t.size : Int), (t.depth : Int)⟩ := by
  have := t.size_pos
  unfold rd_T62
  rw [show i.toNat = l.length + t.size - 1 by omega]
  exact sho_at l m t
/-! ### a tree's list is in order -/
/-! ### a list that is in order is a stack of trees -/
def sizeS : List T → Nat
  | [] => 0
  | t :: s => sizeS s + t.size
def layS : List T → List S47
  | [] => []
  | t :: s => layS s ++ lay (sizeS s) t
def shS : List T → List S62
  | [] => []
  | t :: s => shS s ++ sho t
theorem layS_length : ∀ s, (layS s).length = sizeS s := by
  intro s
  induction s with
  | nil => rfl
  | cons t s ih => simp only [layS, sizeS, List.length_append, lay_length, ih]
theorem shS_length : ∀ s, (shS s).length = sizeS s := by
  intro s
  induction s with
  | nil => rfl
  | cons t s ih => simp only [shS, sizeS, List.length_append, sho_length, ih]
theorem dec (N : Nat) : ∀ (rest : List S47) (s : List T), (∀ t ∈ s, t.ok) → okL (shS s) rest → ∃ s', (∀ t ∈ s', t.ok) ∧ layS s ++ rest = layS s' ∧ valL N (shS s) rest = valL N (shS s') [] := by
  intro rest
  induction rest with
  | nil => intro s h _; exact ⟨s, h, by rw [List.append_nil], rfl⟩
  | cons n rest ih =>
    intro s h hok
    obtain ⟨hc, hok⟩ := hok
    have hk := code_ok hc
    have step : ∃ s1, (∀ t ∈ s1, t.ok) ∧ layS s ++ [n] = layS s1 ∧ shS s ++ [shp (shS s) n] = shS s1 := by
      obtain ⟨k, m, i, j⟩ := n
      dsimp only at hk
      rw [shS_length] at hk
      by_cases k5 : k < 5
      · obtain ⟨rfl, rfl⟩ := hk.2.2.1 k5
        refine ⟨.leaf k m :: s, ?_, rfl, ?_⟩
        · intro t ht
          rcases List.mem_cons.mp ht with rfl | ht
          · exact ⟨hk.1.1, by omega, hk.2.1.1, hk.2.1.2⟩
          · exact h t ht
        · unfold shp
          rw [if_pos k5]
          rfl
      by_cases e5 : k = 5
      · subst e5
        obtain ⟨rfl, h0, e⟩ := hk.2.2.2.1 rfl
        cases s with
        | nil => exact absurd rfl h0
        | cons t s =>
          have e0 : hi 5 = 0 := rfl
          obtain rfl : m = 0 := by omega
          simp only [sizeS] at e
          obtain rfl : i = (sizeS s : Int) + t.size - 1 := by omega
          have er := sho_rd (shS s) [] t ((sizeS s : Int) + t.size - 1) (by rw [shS_length])
          rw [List.append_nil] at er
          refine ⟨.neg t :: s, ?_, ?_, ?_⟩
          · intro u hu
            rcases List.mem_cons.mp hu with rfl | hu
            · exact h t (List.mem_cons_self ..)
            · exact h u (List.mem_cons_of_mem _ hu)
          · simp only [layS, lay, List.append_assoc]
          · simp only [shS]
            unfold shp
            rw [if_neg (by dsimp only; omega), if_pos rfl]
            dsimp only
            rw [er, List.append_assoc]
            show shS s ++ (sho t ++ [_]) = shS s ++ (sho t ++ [_])
            have := shc_eq t
            unfold shc at this
            rw [this]
      · obtain ⟨h0, e1, e2, e3⟩ := hk.2.2.2.2 (by omega)
        cases s with
        | nil => exact absurd rfl h0
        | cons b s =>
          have eb := sho_rd (shS s) [] b ((sizeS s : Int) + b.size - 1) (by rw [shS_length])
          rw [List.append_nil] at eb
          have e0 : hi k = 0 := by unfold hi; rw [if_neg (by omega), if_neg (by omega)]
          obtain rfl : m = 0 := by omega
          simp only [sizeS, shS] at e1 e2
          have ew : ((sizeS s + b.size : Nat) : Int) - 1 = (sizeS s : Int) + b.size - 1 := by omega
          rw [ew] at e1 e2
          rw [eb] at e2
          dsimp only at e2
          cases s with
          | nil => simp only [sizeS] at e2; omega
          | cons a s =>
            simp only [sizeS] at e1 e2
            obtain rfl : j = (sizeS s : Int) + a.size + b.size - 1 := by omega
            obtain rfl : i = (sizeS s : Int) + a.size - 1 := by omega
            have ea := sho_rd (shS s) (sho b) a ((sizeS s : Int) + a.size - 1) (by rw [shS_length])
            simp only [sizeS, shS] at eb
            rw [show ((sizeS s + a.size : Nat) : Int) + b.size - 1 = (sizeS s : Int) + a.size + b.size - 1 by omega] at eb
            refine ⟨.bin k a b :: s, ?_, ?_, ?_⟩
            · intro u hu
              rcases List.mem_cons.mp hu with rfl | hu
              · exact ⟨by omega, h a (List.mem_cons_of_mem _ (List.mem_cons_self ..)), h b (List.mem_cons_self ..)⟩
              · exact h u (List.mem_cons_of_mem _ (List.mem_cons_of_mem _ hu))
            · simp only [layS, lay, sizeS, List.append_assoc]
            · simp only [shS]
              unfold shp
              rw [if_neg (by dsimp only; omega), if_neg (by dsimp only; omega)]
              dsimp only
              rw [ea, eb]
              show shS s ++ sho a ++ sho b ++ [_] = shS s ++ (sho a ++ sho b ++ [_])
              have ha := shc_eq a
              have hb := shc_eq b
              unfold shc at ha hb
              rw [ha, hb]
              simp only [List.append_assoc]
    obtain ⟨s1, o1, l1, v1⟩ := step
    rw [v1] at hok
    obtain ⟨s2, o2, l2, v2⟩ := ih s1 o1 hok
    refine ⟨s2, o2, ?_, ?_⟩
    · rw [← l2, ← l1, List.append_assoc]
      rfl
    · rw [← v2, ← v1, valL, if_pos hc]
theorem polV_tree {ns : List S47} (h : polV ns = (0, 0)) : ∃ t : T, t.ok ∧ ns = lay 0 t ∧ t.size ≤ 24 ∧ t.depth ≤ 12 := by
  obtain ⟨h0, h1, hok, hv⟩ := polV_ok h
  obtain ⟨s, o, l, v⟩ := dec ns.length ns [] (fun _ ht => by cases ht) hok
  rw [show shS [] = [] from rfl, hv] at v
  rw [show layS [] = [] from rfl, List.nil_append] at l
  cases s with
  | nil => rw [l] at h0; exact absurd h0 (by decide)
  | cons t s =>
    have hl : ns.length = sizeS s + t.size := by rw [l, layS_length]; rfl
    have er := sho_rd (shS s) [] t ((shS (t :: s)).length - 1 : Int) (by rw [shS_length, shS_length]; simp only [sizeS]; omega)
    rw [List.append_nil] at er
    rw [valL, show shS (t :: s) = shS s ++ sho t from rfl] at v
    rw [show shS (t :: s) = shS s ++ sho t from rfl] at er
    rw [er] at v
    dsimp only at v
    split at v
    · rename_i e
      cases s with
      | nil =>
        split at v
        · exact absurd (congrArg Prod.fst v) (by decide)
        · rename_i hd
          have hz : sizeS [] = 0 := rfl
          refine ⟨t, o t (List.mem_cons_self ..), ?_, ?_, ?_⟩
          · rw [l]; rfl
          · omega
          · omega
      | cons a s =>
        have := a.size_pos
        simp only [sizeS] at hl
        omega
    · exact absurd (congrArg Prod.fst v) (by decide)
end Go.Proofs.YtblkkhddefnkpaaDoor.Pure
namespace Go.Proofs.YtblkkhddefnkpaaDoor.Pure
open Go.RowKit Go.Proofs.YtblkkhddefnkpaaDoorW.PrintWords Go.Proofs.YtblkkhddefnkpaaDoorW.PrintLast Go.Proofs.YtblkkhddefnkpaaDoorW.PrintMore Go.Proofs.YtblkkhddefnkpaaDoor.PPo
set_option linter.unusedVariables false
/-! ### equal policies -/
theorem eqP_l0 (xs : List S47) (hx : xs.length ≤ 9223372036854775806) : ∀ (rest pre : List S47), pre ++ rest = xs → Ev (fun k => qp_.l0 k (pre.length : Int) xs xs) true := by
  intro rest
  induction rest with
  | nil =>
    intro pre h
    rw [List.append_nil] at h
    subst h
    refine Ev.succ ?_
    unfold qp_.l0
    exact Ev.neg (by omega) (Ev.now _)
  | cons n t ih =>
    intro pre h
    have hl : xs.length = pre.length + (t.length + 1) := by rw [← h, List.length_append, List.length_cons]
    refine Ev.succ ?_
    unfold qp_.l0
    have e1 : wrap64 ((pre.length : Int) + 1) = ((pre ++ [n]).length : Int) := by rw [w64 (by omega) (by omega), List.length_append, List.length_singleton]; omega
    rw [e1]
    refine Ev.pos (by omega) (Ev.pos (by omega) (Ev.pos (by omega) (Ev.pos (by simp) (ih (pre ++ [n]) ?_))))
    rw [List.append_assoc, List.singleton_append, h]
theorem eqP_self (xs : List S47) (hx : xs.length ≤ 9223372036854775806) : Ev (fun k => qp_.f k xs xs) true := by
  unfold qp_.f
  exact Ev.pos rfl (eqP_l0 xs hx xs [] rfl)
/-! ### negation normal form -/
def nnf : T → Bool → T
  | .leaf k n, b => if b = true then .neg (.leaf k n) else .leaf k n
  | .neg t, b => nnf t (!b)
  | .bin k l r, b => .bin (if b = true then 13 - k else k) (nnf l b) (nnf r b)
theorem nnf_size : ∀ (t : T) (b : Bool), (nnf t b).size + 1 ≤ 2 * t.size + 1 := by
  intro t
  induction t with
  | leaf k n => intro b; unfold nnf; split <;> simp only [T.size] <;> omega
  | neg t ih => intro b; have := ih (!b); simp only [nnf, T.size]; omega
  | bin k l r ihl ihr => intro b; have := ihl b; have := ihr b; simp only [nnf, T.size]; omega
/-- Negations stand above leaves alone. -/
def T.nn : T → Prop
  | .leaf _ _ => True
  | .neg (.leaf _ _) => True
  | .neg _ => False
  | .bin _ l r => l.nn ∧ r.nn
theorem rd_at (pre xs post : List S47) (t : T) (i : Int) (hi : i = (pre.length : Int) + t.size - 1) : qj_ (pre ++ lay pre.length t ++ post) i = T.root pre.length t := by
  obtain ⟨p, e, hp⟩ := lay_root t pre.length
  have := t.size_pos
  unfold qj_
  rw [show i.toNat = pre.length + t.size - 1 by omega, e, List.getD_eq_getElem?_getD, List.append_assoc, List.getElem?_append_right (by omega), List.append_assoc, List.getElem?_append_right (by omega)]
  rw [show pre.length + t.size - 1 - pre.length - p.length = 0 by omega]
  rfl
theorem nAdd_eq (n : S47) (ns : List S47) (h : ns.length < 1000000) : nAdd n ns = some ((ns.length : Int), ns ++ [n]) := by unfold nAdd; rw [if_pos h]
theorem norm_lay : ∀ (t : T), t.ok → ∀ (neg : Bool) (out pre post : List S47) (i : Int), i = (pre.length : Int) + t.size - 1 → out.length + (nnf t neg).size ≤ 1000000 →
    Ev (fun k => normM (pre ++ lay pre.length t ++ post) k i neg out) ((out.length : Int) + (nnf t neg).size - 1, out ++ lay out.length (nnf t neg)) := by
  intro t
  induction t with
  | leaf k n =>
    intro h neg out pre post i hi hs
    have hr := rd_at pre [] post (.leaf k n) i hi
    have hl : (pre ++ lay pre.length (T.leaf k n) ++ post).length = pre.length + 1 + post.length := by rw [List.length_append, List.length_append, lay_length]; rfl
    have hk := h.2.1
    have h1 : (T.leaf k n).size = 1 := rfl
    rw [h1] at hi
    refine Ev.succ ?_
    unfold normM
    rw [hr]
    dsimp only [T.root]
    refine Ev.pos ⟨by omega, by omega⟩ (Ev.neg (by omega) (Ev.pos (by omega) ?_))
    cases neg with
    | false =>
      have e : nnf (.leaf k n) false = .leaf k n := rfl
      rw [e] at hs ⊢
      rw [h1] at hs ⊢
      rw [if_neg Bool.false_ne_true, nAdd_eq _ _ (by omega)]
      have e2 : (out.length : Int) + (1 : Nat) - 1 = (out.length : Int) := by omega
      rw [e2]
      exact Ev.now _
    | true =>
      have e : nnf (.leaf k n) true = .neg (.leaf k n) := rfl
      have h2 : (T.neg (.leaf k n)).size = 2 := rfl
      rw [e] at hs ⊢
      rw [h2] at hs ⊢
      have e3 : (out ++ [(⟨k, n, 0, 0⟩ : S47)]).length = out.length + 1 := by rw [List.length_append]; rfl
      rw [if_pos rfl, nAdd_eq _ _ (by omega), Option.bind_some, nAdd_eq _ _ (by rw [e3]; omega)]
      have e2 : (((out ++ [(⟨k, n, 0, 0⟩ : S47)]).length : Nat) : Int) = (out.length : Int) + (2 : Nat) - 1 := by rw [e3]; omega
      have e4 : out ++ [(⟨k, n, 0, 0⟩ : S47)] ++ [⟨5, 0, (out.length : Int), 0⟩] = out ++ lay out.length (.neg (.leaf k n)) := by
        simp only [lay, T.size, List.append_assoc]
        have : (out.length : Int) + (1 : Nat) - 1 = (out.length : Int) := by omega
        rw [this]
      rw [e2, e4]
      exact Ev.now _
  | neg t ih =>
    intro h neg out pre post i hi hs
    have hr := rd_at pre [] post (.neg t) i hi
    have hl : (pre ++ lay pre.length (T.neg t) ++ post).length = pre.length + (t.size + 1) + post.length := by rw [List.length_append, List.length_append, lay_length]; rfl
    have h1 : (T.neg t).size = t.size + 1 := rfl
    have hp := t.size_pos
    rw [h1] at hi
    refine Ev.succ ?_
    unfold normM
    rw [hr]
    dsimp only [T.root]
    refine Ev.pos ⟨by omega, by omega⟩ (Ev.pos rfl ?_)
    have := ih h (!neg) out pre ([⟨5, 0, (pre.length : Int) + t.size - 1, 0⟩] ++ post) ((pre.length : Int) + t.size - 1) rfl hs
    have e : pre ++ lay pre.length t ++ ([(⟨5, 0, (pre.length : Int) + t.size - 1, 0⟩ : S47)] ++ post) = pre ++ lay pre.length (T.neg t) ++ post := by simp only [lay, List.append_assoc]
    rw [e] at this
    exact this
  | bin k a b iha ihb =>
    intro h neg out pre post i hi hs
    have hr := rd_at pre [] post (.bin k a b) i hi
    have hl : (pre ++ lay pre.length (T.bin k a b) ++ post).length = pre.length + (a.size + b.size + 1) + post.length := by rw [List.length_append, List.length_append, lay_length]; rfl
    have h1 : (T.bin k a b).size = a.size + b.size + 1 := rfl
    have hk := h.1
    have hp := a.size_pos
    have hq := b.size_pos
    have hsz : (nnf (.bin k a b) neg).size = (nnf a neg).size + (nnf b neg).size + 1 := rfl
    rw [hsz] at hs ⊢
    rw [h1] at hi
    refine Ev.succ ?_
    unfold normM
    rw [hr]
    dsimp only [T.root]
    refine Ev.pos ⟨by omega, by omega⟩ (Ev.neg (by omega) (Ev.neg (by omega) ?_))
    have ea := iha h.2.1 neg out pre (lay (pre.length + a.size) b ++ [⟨k, 0, (pre.length : Int) + a.size - 1, (pre.length : Int) + a.size + b.size - 1⟩] ++ post) ((pre.length : Int) + a.size - 1) rfl (by omega)
    have eb := ihb h.2.2 neg (out ++ lay out.length (nnf a neg)) (pre ++ lay pre.length a) ([⟨k, 0, (pre.length : Int) + a.size - 1, (pre.length : Int) + a.size + b.size - 1⟩] ++ post) ((pre.length : Int) + a.size + b.size - 1) (by rw [List.length_append, lay_length]; omega) (by rw [List.length_append, lay_length]; omega)
    have e1 : pre ++ lay pre.length a ++ (lay (pre.length + a.size) b ++ [(⟨k, 0, (pre.length : Int) + a.size - 1, (pre.length : Int) + a.size + b.size - 1⟩ : S47)] ++ post) = pre ++ lay pre.length (T.bin k a b) ++ post := by simp only [lay, List.append_assoc]
    have e2 : pre ++ lay pre.length a ++ lay (pre ++ lay pre.length a).length b ++ ([(⟨k, 0, (pre.length : Int) + a.size - 1, (pre.length : Int) + a.size + b.size - 1⟩ : S47)] ++ post) = pre ++ lay pre.length (T.bin k a b) ++ post := by
      rw [List.length_append, lay_length]
      simp only [lay, List.append_assoc]
    rw [e1] at ea
    rw [e2] at eb
    refine Ev.bind ea ?_
    refine Ev.bind eb ?_
    dsimp only
    have hw : wrap64 (13 - k) = 13 - k := w64 (by omega) (by omega)
    have hol : (out ++ lay out.length (nnf a neg) ++ lay (out ++ lay out.length (nnf a neg)).length (nnf b neg)).length = out.length + (nnf a neg).size + (nnf b neg).size := by
      rw [List.length_append, lay_length, List.length_append, lay_length]
    rw [hw, nAdd_eq _ _ (by rw [hol]; omega), hol]
    have ef : (((out.length + (nnf a neg).size + (nnf b neg).size : Nat) : Int)) = (out.length : Int) + (((nnf a neg).size + (nnf b neg).size + 1 : Nat) : Int) - 1 := by omega
    have eg : out ++ lay out.length (nnf a neg) ++ lay (out ++ lay out.length (nnf a neg)).length (nnf b neg) ++ [(⟨if neg = true then 13 - k else k, 0, (out.length : Int) + (nnf a neg).size - 1, ((out ++ lay out.length (nnf a neg)).length : Int) + (nnf b neg).size - 1⟩ : S47)] = out ++ lay out.length (nnf (T.bin k a b) neg) := by
      rw [List.length_append, lay_length]
      simp only [nnf, lay, List.append_assoc]
      rw [show ((out.length + (nnf a neg).size : Nat) : Int) = (out.length : Int) + (nnf a neg).size by omega]
    rw [eg, ef]
    exact Ev.now _
def polN (t : T) : List S47 × Int × Int := if polV (lay 0 (nnf t false)) = (0, 0) then (lay 0 (nnf t false), 0, 0) else ([], 10, -1)
theorem pair_zero {p : Int × Int} : (p.1 = 0 ∧ p.2 = 0) ↔ p = (0, 0) := ⟨fun h => Prod.ext h.1 h.2, fun h => by rw [h]; exact ⟨rfl, rfl⟩⟩
theorem Normal_ev (t : T) (h : t.ok) (hv : polV (lay 0 t) = (0, 0)) : Ev (fun k => policy_Normal.f k (lay 0 t)) (polN t) := by
  have h1 := t.size_pos
  have h2 : t.size ≤ 24 := by
    have := (polV_ok hv).2.1
    rwa [lay_length] at this
  have hs := nnf_size t false
  unfold policy_Normal.f polN
  refine Ev.bind (Validate_ev _) (Ev.pos (pair_zero.mpr hv) ?_)
  have := norm_lay t h false [] [] [] ((t.size : Int) - 1) (by simp) (by simp only [List.length_nil]; omega)
  simp only [List.nil_append, List.append_nil] at this
  have ew : wrap64 (((lay 0 t).length : Int) - 1) = (t.size : Int) - 1 := by rw [lay_length, w64 (by omega) (by omega)]
  rw [ew]
  refine Ev.bind this (Ev.pos ?_ ?_)
  · dsimp only; rw [lay_length]; omega
  · refine Ev.bind (Validate_ev _) ?_
    dsimp only
    rw [show ([] : List S47).length = 0 from rfl]
    by_cases hn : polV (lay 0 (nnf t false)) = (0, 0)
    · rw [if_pos hn]
      exact Ev.pos (pair_zero.mpr hn) (Ev.now _)
    · rw [if_neg hn]
      exact Ev.neg (fun e => hn (pair_zero.mp e)) (Ev.now _)
theorem Normal_bad (ns : List S47) (hv : polV ns ≠ (0, 0)) : Ev (fun k => policy_Normal.f k ns) ([], (polV ns).1, (polV ns).2) := by
  unfold policy_Normal.f
  exact Ev.bind (Validate_ev _) (Ev.neg (fun e => hv (pair_zero.mp e)) (Ev.now _))
/-! ### values -/
def evT (a0 : Int) (a1 a2 : Bool) (a3 : Int) : T → Bool := cata (fun k n => if k = 1 then decide (a0 ≥ n) else if k = 2 then a1 else if k = 3 then a2 else bitB a3 n) (fun x => !x) (fun k x y => if k = 6 then (x && y) else (x || y))
theorem evL_fold (a0 : Int) (a1 a2 : Bool) (a3 : Int) : ∀ (ns : List S47) (v : List Bool), evL a0 a1 a2 a3 v ns = fold (fun v n => evN v n a0 a1 a2 a3) v ns := by
  intro ns
  induction ns with
  | nil => intro v; rfl
  | cons n t ih => intro v; simp only [evL, fold, ih]
theorem polVal_lay (a0 : Int) (a1 a2 : Bool) (a3 : Int) (t : T) (h : t.ok) : polVal (lay 0 t) a0 a1 a2 a3 = evT a0 a1 a2 a3 t := by
  have h1 := t.size_pos
  have key := fold_lay (fun v n => evN v n a0 a1 a2 a3) (fun k n => if k = 1 then decide (a0 ≥ n) else if k = 2 then a1 else if k = 3 then a2 else bitB a3 n) (fun x => !x) (fun k x y => if k = 6 then (x && y) else (x || y)) false ?_ ?_ ?_ t h []
  · unfold polVal
    rw [evL_fold, lay_length]
    rw [show lay 0 t = lay ([] : List Bool).length t from rfl, key]
    unfold rdOf
    rw [show (((t.size : Nat) : Int) - 1).toNat = ([] : List Bool).length + t.size - 1 by simp]
    have := outs_at (fun k n => if k = 1 then decide (a0 ≥ n) else if k = 2 then a1 else if k = 3 then a2 else bitB a3 n) (fun x => !x) (fun k x y => if k = 6 then (x && y) else (x || y)) false [] [] t
    rw [List.append_nil] at this
    exact this
  · intro l k n k1 k4
    unfold evN
    dsimp only
    split
    · rfl
    split
    · rfl
    split
    · rfl
    rw [if_pos (by omega)]
  · intro l i
    unfold evN rdOf
    rw [if_neg (by dsimp only; omega), if_neg (by dsimp only; omega), if_neg (by dsimp only; omega), if_neg (by dsimp only; omega), if_pos rfl]
    rfl
  · intro l k i j hk
    unfold evN rdOf
    rw [if_neg (by dsimp only; omega), if_neg (by dsimp only; omega), if_neg (by dsimp only; omega), if_neg (by dsimp only; omega), if_neg (by dsimp only; omega)]
    rfl
end Go.Proofs.YtblkkhddefnkpaaDoor.Pure
