/- POLICY: plain law of Validate and Eval -/
import Derived.Test.YtblkkhddefnkpaaDoorPPox6
import Derived.Laws.BitsLemmas
set_option linter.unusedVariables false
namespace Go.Proofs.YtblkkhddefnkpaaDoor.Pure
open Go.RowKit Go.Proofs.YtblkkhddefnkpaaDoorW.PrintWords Go.Proofs.YtblkkhddefnkpaaDoorW.PrintLast Go.Proofs.YtblkkhddefnkpaaDoorW.PrintMore Go.Proofs.YtblkkhddefnkpaaDoor.PPo

theorem Ev.succ {α : Type} {g : Nat → Option α} {r : α} (h : Ev (fun k => g (k + 1)) r) : Ev g r := by
  obtain ⟨K, h⟩ := h
  refine ⟨K + 1, fun k hk => ?_⟩
  obtain ⟨j, rfl⟩ : ∃ j, k = j + 1 := ⟨k - 1, by omega⟩
  exact h j (by omega)
theorem Ev.const {α : Type} {g : Nat → Option α} {r : α} (h : ∀ k, g k = some r) : Ev g r := ⟨0, fun k _ => h k⟩
theorem Ev.pos {α : Type} {c : Prop} [Decidable c] {g f : Nat → Option α} {r : α} (hc : c) (h : Ev g r) : Ev (fun n => if c then g n else f n) r := by simpa only [if_pos hc] using h
theorem Ev.neg {α : Type} {c : Prop} [Decidable c] {g f : Nat → Option α} {r : α} (hc : ¬ c) (h : Ev f r) : Ev (fun n => if c then g n else f n) r := by simpa only [if_neg hc] using h
theorem w64 {x : Int} (h0 : -9223372036854775808 ≤ x) (h1 : x ≤ 9223372036854775807) : wrap64 x = x := by unfold wrap64; omega

/-! ### Validate -/
def hi (k : Int) : Int := if k = 1 then 8 else if k = 4 then 7 else 0
def ncode (l : List S62) (n : S47) : Int :=
  if n.f0 < 1 ∨ n.f0 > 7 then 4 else if n.f1 < 0 ∨ n.f1 > hi n.f0 then 3
  else if (n.f0 < 5 ∧ (n.f2 ≠ 0 ∨ n.f3 ≠ 0)) ∨ (n.f0 = 5 ∧ n.f3 ≠ 0) then 5
  else if n.f0 = 5 ∧ ((l.length : Int) = 0 ∨ n.f2 ≠ (l.length : Int) - 1) then 5
  else if n.f0 > 5 ∧ ((l.length : Int) = 0 ∨ n.f3 ≠ (l.length : Int) - 1 ∨ n.f2 ≠ (l.length : Int) - 1 - (rd_T62 l ((l.length : Int) - 1)).f0 ∨ n.f2 < 0) then 5 else 0
def shp (l : List S62) (n : S47) : S62 :=
  if n.f0 < 5 then ⟨1, 1⟩ else if n.f0 = 5 then ⟨1 + (rd_T62 l n.f2).f0, 1 + (rd_T62 l n.f2).f1⟩
  else ⟨1 + (rd_T62 l n.f2).f0 + (rd_T62 l n.f3).f0, mx (1 + (rd_T62 l n.f2).f1) (1 + (rd_T62 l n.f3).f1)⟩
def Inv (l : List S62) : Prop := ∀ j, j < l.length → (1 ≤ (l.getD j z62).f0 ∧ (l.getD j z62).f0 ≤ (j : Int) + 1) ∧ 1 ≤ (l.getD j z62).f1 ∧ (l.getD j z62).f1 ≤ (j : Int) + 1
theorem Inv.rd {l : List S62} (h : Inv l) {i : Int} (h0 : 0 ≤ i) (h1 : i < l.length) : (1 ≤ (rd_T62 l i).f0 ∧ (rd_T62 l i).f0 ≤ i + 1) ∧ 1 ≤ (rd_T62 l i).f1 ∧ (rd_T62 l i).f1 ≤ i + 1 := by
  have := h i.toNat (by omega)
  unfold rd_T62
  omega
theorem Inv.push {l : List S62} (h : Inv l) {s : S62} (h0 : 1 ≤ s.f0 ∧ s.f0 ≤ (l.length : Int) + 1) (h1 : 1 ≤ s.f1 ∧ s.f1 ≤ (l.length : Int) + 1) : Inv (l ++ [s]) := by
  intro j hj
  rw [List.length_append, List.length_singleton] at hj
  rcases Nat.lt_or_ge j l.length with hl | hl
  · have e : (l ++ [s]).getD j z62 = l.getD j z62 := by simp only [List.getD_eq_getElem?_getD, List.getElem?_append_left hl]
    rw [e]
    exact h j hl
  · obtain rfl : j = l.length := by omega
    have e : (l ++ [s]).getD l.length z62 = s := by simp [List.getD_eq_getElem?_getD]
    rw [e]
    exact ⟨h0, h1⟩
theorem code_ok {l : List S62} {n : S47} (h : ncode l n = 0) : (1 ≤ n.f0 ∧ n.f0 ≤ 7) ∧ (0 ≤ n.f1 ∧ n.f1 ≤ hi n.f0) ∧ (n.f0 < 5 → n.f2 = 0 ∧ n.f3 = 0) ∧ (n.f0 = 5 → n.f3 = 0 ∧ (l.length : Int) ≠ 0 ∧ n.f2 = (l.length : Int) - 1) ∧
    (n.f0 > 5 → (l.length : Int) ≠ 0 ∧ n.f3 = (l.length : Int) - 1 ∧ n.f2 = (l.length : Int) - 1 - (rd_T62 l ((l.length : Int) - 1)).f0 ∧ 0 ≤ n.f2) := by
  unfold ncode at h
  split at h
  · omega
  split at h
  · omega
  split at h
  · omega
  split at h
  · omega
  split at h
  · omega
  refine ⟨by omega, by omega, ?_, ?_, ?_⟩ <;> intro <;> omega
theorem kids {l : List S62} {n : S47} (hi : Inv l) (h : ncode l n = 0) (h5 : n.f0 ≥ 5) : (0 ≤ n.f2 ∧ n.f2 < (l.length : Int)) ∧ (n.f0 > 5 → 0 ≤ n.f3 ∧ n.f3 < (l.length : Int)) := by
  obtain ⟨_, _, _, h3, h4⟩ := code_ok h
  by_cases e : n.f0 = 5
  · obtain ⟨_, a, b⟩ := h3 e
    refine ⟨by omega, by omega⟩
  · obtain ⟨a, b, c, d⟩ := h4 (by omega)
    have := hi.rd (i := (l.length : Int) - 1) (by omega) (by omega)
    refine ⟨by omega, fun _ => by omega⟩
theorem shp_inv {l : List S62} {n : S47} (hv : Inv l) (h : ncode l n = 0) : (1 ≤ (shp l n).f0 ∧ (shp l n).f0 ≤ (l.length : Int) + 1) ∧ (1 ≤ (shp l n).f1 ∧ (shp l n).f1 ≤ (l.length : Int) + 1) := by
  have hk := code_ok h
  by_cases h5 : n.f0 < 5
  · have e : shp l n = ⟨1, 1⟩ := by unfold shp; rw [if_pos h5]
    rw [e]
    dsimp only
    omega
  · have hc := kids hv h (by omega)
    have hl := hv.rd hc.1.1 hc.1.2
    by_cases e5 : n.f0 = 5
    · have e : shp l n = ⟨1 + (rd_T62 l n.f2).f0, 1 + (rd_T62 l n.f2).f1⟩ := by unfold shp; rw [if_neg h5, if_pos e5]
      rw [e]
      dsimp only
      omega
    · have hc2 := hc.2 (by omega)
      have hr := hv.rd hc2.1 hc2.2
      obtain ⟨a, b, c, d⟩ := hk.2.2.2.2 (by omega)
      have e : shp l n = ⟨1 + (rd_T62 l n.f2).f0 + (rd_T62 l n.f3).f0, mx (1 + (rd_T62 l n.f2).f1) (1 + (rd_T62 l n.f3).f1)⟩ := by unfold shp; rw [if_neg h5, if_neg e5]
      rw [e]
      dsimp only
      rw [← b] at c
      unfold mx
      split <;> omega
theorem j3_eq (k : Nat) (l : List S62) (hl : l.length ≤ 24) (hv : Inv l) (x : Bool) (a b c d : Int) : policy_nodeCode.j3 (k + 1) l (l.length : Int) x a b c d = some (if x = true then 5 else if a > 5 ∧ ((l.length : Int) = 0 ∨ d ≠ (l.length : Int) - 1 ∨ c ≠ (l.length : Int) - 1 - (rd_T62 l ((l.length : Int) - 1)).f0 ∨ c < 0) then 5 else 0) := by
  have e1 : wrap64 ((l.length : Int) - 1) = (l.length : Int) - 1 := w64 (by omega) (by omega)
  rw [policy_nodeCode.j3]
  rw [e1]
  by_cases hx : x = true
  · rw [if_pos hx, if_pos hx]
  rw [if_neg hx, if_neg hx]
  by_cases ha : a > 5
  · rw [if_pos ha]
    by_cases h0 : (l.length : Int) = 0
    · rw [if_pos h0, if_pos (by omega)]
    rw [if_neg h0]
    have hr := hv.rd (i := (l.length : Int) - 1) (by omega) (by omega)
    have e2 : wrap64 ((l.length : Int) - 1 - (rd_T62 l ((l.length : Int) - 1)).f0) = (l.length : Int) - 1 - (rd_T62 l ((l.length : Int) - 1)).f0 := w64 (by omega) (by omega)
    rw [e2]
    by_cases h1 : d = (l.length : Int) - 1
    · rw [if_pos h1, if_pos (by omega), if_pos (by omega)]
      by_cases h2 : c = (l.length : Int) - 1 - (rd_T62 l ((l.length : Int) - 1)).f0
      · rw [if_pos h2]
        by_cases h3 : c < 0
        · rw [if_pos h3, if_pos (by omega)]
        · rw [if_neg h3, if_neg (by omega)]
      · rw [if_neg h2, if_pos (by omega)]
    · rw [if_neg h1, if_pos (by omega)]
  · rw [if_neg ha, if_neg (by omega)]
theorem nodeCode_eq (k : Nat) (l : List S62) (hl : l.length ≤ 24) (hv : Inv l) (n : S47) : policy_nodeCode.f (k + 4) n.f0 n.f1 n.f2 n.f3 l = some (ncode l n) := by
  have e1 : wrap64 ((l.length : Int) - 1) = (l.length : Int) - 1 := w64 (by omega) (by omega)
  have J3 := j3_eq k l hl hv
  have J2 : ∀ x, policy_nodeCode.j2 (k + 2) l (l.length : Int) x n.f0 n.f1 n.f2 n.f3 = some (if x = true then 5 else if n.f0 = 5 ∧ ((l.length : Int) = 0 ∨ n.f2 ≠ (l.length : Int) - 1) then 5
      else if n.f0 > 5 ∧ ((l.length : Int) = 0 ∨ n.f3 ≠ (l.length : Int) - 1 ∨ n.f2 ≠ (l.length : Int) - 1 - (rd_T62 l ((l.length : Int) - 1)).f0 ∨ n.f2 < 0) then 5 else 0) := by
    intro x
    rw [policy_nodeCode.j2]
    rw [J3, J3, J3, e1]
    by_cases hx : x = true
    · rw [if_pos hx, if_pos hx]
    rw [if_neg hx, if_neg hx]
    by_cases ha : n.f0 = 5
    · rw [if_pos ha]
      by_cases h0 : (l.length : Int) = 0
      · rw [if_pos h0, if_pos rfl, if_pos (c := n.f0 = 5 ∧ _) ⟨ha, .inl h0⟩]
      · rw [if_neg h0]
        by_cases h1 : n.f2 = (l.length : Int) - 1
        · rw [if_neg (by rw [h1]; simp), if_neg (by omega), if_neg (by omega)]
        · rw [if_pos (by simpa using h1), if_pos (by omega)]
    · rw [if_neg ha, if_neg (by simp), if_neg (c := n.f0 = 5 ∧ _) (by omega)]
  have J1 : ∀ x, policy_nodeCode.j1 (k + 3) l (l.length : Int) x n.f0 n.f1 n.f2 n.f3 = some (if x = true then 3 else if (n.f0 < 5 ∧ (n.f2 ≠ 0 ∨ n.f3 ≠ 0)) ∨ (n.f0 = 5 ∧ n.f3 ≠ 0) then 5 else if n.f0 = 5 ∧ ((l.length : Int) = 0 ∨ n.f2 ≠ (l.length : Int) - 1) then 5
      else if n.f0 > 5 ∧ ((l.length : Int) = 0 ∨ n.f3 ≠ (l.length : Int) - 1 ∨ n.f2 ≠ (l.length : Int) - 1 - (rd_T62 l ((l.length : Int) - 1)).f0 ∨ n.f2 < 0) then 5 else 0) := by
    intro x
    rw [policy_nodeCode.j1]
    rw [J2, J2, J2]
    by_cases hx : x = true
    · rw [if_pos hx, if_pos hx]
    rw [if_neg hx, if_neg hx]
    by_cases ha : n.f0 < 5
    · rw [if_pos ha]
      by_cases h2 : n.f2 = 0
      · rw [if_pos h2]
        by_cases h3 : n.f3 = 0
        · rw [if_pos h3, if_neg (c := n.f0 = 5) (by omega), if_neg (c := false = true) (by simp), if_neg (c := (n.f0 < 5 ∧ _) ∨ _) (by omega)]
        · rw [if_neg h3, if_pos rfl, if_pos (by omega)]
      · rw [if_neg h2, if_pos rfl, if_pos (by omega)]
    · rw [if_neg ha]
      by_cases h5 : n.f0 = 5
      · rw [if_pos h5]
        by_cases h3 : n.f3 = 0
        · rw [if_neg (c := (n.f3 != 0) = true) (by rw [h3]; simp), if_neg (c := (n.f0 < 5 ∧ _) ∨ _) (by omega)]
        · rw [if_pos (c := (n.f3 != 0) = true) (by simpa using h3), if_pos (by omega)]
      · rw [if_neg h5, if_neg (c := false = true) (by simp), if_neg (c := (n.f0 < 5 ∧ _) ∨ _) (by omega)]
  have J0 : ∀ x, policy_nodeCode.j0 (k + 4) l (l.length : Int) x n.f0 n.f1 n.f2 n.f3 = some (if x = true then 4 else if n.f1 < 0 ∨ n.f1 > hi n.f0 then 3 else if (n.f0 < 5 ∧ (n.f2 ≠ 0 ∨ n.f3 ≠ 0)) ∨ (n.f0 = 5 ∧ n.f3 ≠ 0) then 5 else if n.f0 = 5 ∧ ((l.length : Int) = 0 ∨ n.f2 ≠ (l.length : Int) - 1) then 5
      else if n.f0 > 5 ∧ ((l.length : Int) = 0 ∨ n.f3 ≠ (l.length : Int) - 1 ∨ n.f2 ≠ (l.length : Int) - 1 - (rd_T62 l ((l.length : Int) - 1)).f0 ∨ n.f2 < 0) then 5 else 0) := by
    intro x
    have eh : policy_highest.f n.f0 = some (hi n.f0) := by
      unfold policy_highest.f hi
      split
      · rfl
      · split <;> rfl
    rw [policy_nodeCode.j0]
    rw [J1, eh, Option.bind_some, J1]
    by_cases hx : x = true
    · rw [if_pos hx, if_pos hx]
    rw [if_neg hx, if_neg hx]
    by_cases ha : n.f1 < 0
    · rw [if_pos ha, if_pos rfl, if_pos (by omega)]
    · rw [if_neg ha]
      by_cases hb : n.f1 > hi n.f0
      · rw [if_pos (c := decide _ = true) (decide_eq_true hb), if_pos (c := n.f1 < 0 ∨ _) (.inr hb)]
      · rw [if_neg (c := decide _ = true) (by simpa using hb), if_neg (c := n.f1 < 0 ∨ _) (by omega)]
  unfold policy_nodeCode.f ncode
  rw [J0, J0]
  by_cases ha : n.f0 < 1
  · rw [if_pos ha, if_pos rfl, if_pos (by omega)]
  · rw [if_neg ha]
    by_cases hb : n.f0 > 7
    · rw [if_pos (c := decide _ = true) (decide_eq_true hb), if_pos (c := n.f0 < 1 ∨ _) (.inr hb)]
    · rw [if_neg (c := decide _ = true) (by simpa using hb), if_neg (c := n.f0 < 1 ∨ _) (by omega)]
theorem nodeCode_ev (l : List S62) (hl : l.length ≤ 24) (hv : Inv l) (n : S47) : Ev (fun k => policy_nodeCode.f k n.f0 n.f1 n.f2 n.f3 l) (ncode l n) := ⟨4, fun k hk => by
  obtain ⟨j, rfl⟩ : ∃ j, k = j + 4 := ⟨k - 4, by omega⟩
  exact nodeCode_eq j l hl hv n⟩
theorem shapeOf_eq (l : List S62) (hl : l.length ≤ 24) (hv : Inv l) (n : S47) (h : ncode l n = 0) : policy_shapeOf.f n.f0 n.f1 n.f2 n.f3 l = some ((shp l n).f0, (shp l n).f1) := by
  unfold policy_shapeOf.f
  by_cases h5 : n.f0 ≥ 5
  · have hc := kids hv h h5
    have hx := hv.rd hc.1.1 hc.1.2
    have w1 : wrap64 (1 + (rd_T62 l n.f2).f0) = 1 + (rd_T62 l n.f2).f0 := w64 (by omega) (by omega)
    have w2 : wrap64 (1 + (rd_T62 l n.f2).f1) = 1 + (rd_T62 l n.f2).f1 := w64 (by omega) (by omega)
    rw [if_pos h5, if_pos hc.1.1, if_pos hc.1.2, w1, w2]
    by_cases h6 : n.f0 > 5
    · have hd := hc.2 h6
      have hy := hv.rd hd.1 hd.2
      have w3 : wrap64 (1 + (rd_T62 l n.f2).f0 + (rd_T62 l n.f3).f0) = 1 + (rd_T62 l n.f2).f0 + (rd_T62 l n.f3).f0 := w64 (by omega) (by omega)
      have w4 : wrap64 (1 + (rd_T62 l n.f3).f1) = 1 + (rd_T62 l n.f3).f1 := w64 (by omega) (by omega)
      rw [if_pos h6, if_pos hd.1, if_pos hd.2, w3, w4]
      unfold shp
      rw [if_neg (by omega), if_neg (by omega)]
    · rw [if_neg h6]
      unfold shp
      rw [if_neg (by omega), if_pos (by omega)]
  · rw [if_neg h5, if_neg (by omega)]
    unfold shp
    rw [if_pos (by omega)]
def valL (N : Nat) : List S62 → List S47 → Int × Int
  | l, [] => if (rd_T62 l ((l.length : Int) - 1)).f0 = (N : Int) then (if (rd_T62 l ((l.length : Int) - 1)).f1 > 12 then (10, -1) else (0, 0)) else (5, -1)
  | l, n :: t => if ncode l n = 0 then valL N (l ++ [shp l n]) t else (ncode l n, (l.length : Int))
def polV (ns : List S47) : Int × Int := if (ns.length : Int) = 0 then (9, -1) else if (ns.length : Int) > 24 then (2, -1) else valL ns.length [] ns
theorem rd_mid {pre rest : List S47} {n : S47} : rd_T47 (pre ++ n :: rest) (pre.length : Int) = n := by
  unfold rd_T47
  rw [Int.toNat_natCast, List.getD_eq_getElem?_getD, List.getElem?_append_right (Nat.le_refl _), Nat.sub_self]
  rfl
theorem val_l0_ev : ∀ (rest pre : List S47) (l : List S62), pre.length = l.length → (pre ++ rest).length ≤ 24 → (pre ++ rest).length ≠ 0 → Inv l →
    Ev (fun k => policy_Validate.l0 k l (pre ++ rest) ((pre ++ rest).length : Int) (l.length : Int) (pre ++ rest)) (valL (pre ++ rest).length l rest) := by
  intro rest
  induction rest with
  | nil =>
    intro pre l hp hn h0 hv
    rw [List.append_nil] at *
    refine Ev.succ ?_
    unfold policy_Validate.l0 valL
    have e1 : wrap64 ((l.length : Int) - 1) = (l.length : Int) - 1 := w64 (by omega) (by omega)
    refine Ev.neg (by omega) ?_
    rw [e1]
    refine Ev.pos (by omega) (Ev.pos (by omega) ?_)
    by_cases h1 : (rd_T62 l ((l.length : Int) - 1)).f0 = (pre.length : Int)
    · by_cases h2 : (rd_T62 l ((l.length : Int) - 1)).f1 > 12
      · simp only [if_pos h1, if_pos h2]; exact Ev.now _
      · simp only [if_pos h1, if_neg h2]; exact Ev.now _
    · simp only [if_neg h1]; exact Ev.now _
  | cons n t ih =>
    intro pre l hp hn h0 hv
    have hlen : (pre ++ n :: t).length = pre.length + (t.length + 1) := by rw [List.length_append, List.length_cons]
    have hl : l.length ≤ 24 := by omega
    refine Ev.succ ?_
    unfold policy_Validate.l0 valL
    have er : rd_T47 (pre ++ n :: t) (l.length : Int) = n := by rw [← hp]; exact rd_mid
    have e1 : wrap64 ((l.length : Int) + 1) = ((l.length + 1 : Nat) : Int) := by rw [w64 (by omega) (by omega)]; omega
    rw [er, e1]
    refine Ev.pos (by omega) (Ev.pos (by omega) (Ev.pos (by omega) (Ev.bind (nodeCode_ev l hl hv n) ?_)))
    by_cases hc : ncode l n = 0
    · rw [if_pos hc]
      refine Ev.pos hc ?_
      refine Ev.congr (f := fun k => policy_Validate.l0 k (l ++ [shp l n]) (pre ++ n :: t) ((pre ++ n :: t).length : Int) ((l.length + 1 : Nat) : Int) (pre ++ n :: t)) (fun k => ?_) ?_
      · rw [shapeOf_eq l hl hv n hc, Option.bind_some, if_pos (by omega)]
      · have := ih (pre ++ [n]) (l ++ [shp l n]) (by simp [hp]) (by simpa using hn) (by simp) (hv.push (shp_inv hv hc).1 (shp_inv hv hc).2)
        rw [List.append_assoc, List.singleton_append] at this
        simpa only [List.length_append, List.length_singleton] using this
    · rw [if_neg hc]
      exact Ev.neg hc (Ev.now _)
theorem Validate_ev (ns : List S47) : Ev (fun k => policy_Validate.f k ns) (polV ns) := by
  unfold policy_Validate.f polV
  by_cases h0 : (ns.length : Int) = 0
  · rw [if_pos h0]; exact Ev.pos h0 (Ev.now _)
  rw [if_neg h0]
  refine Ev.neg h0 ?_
  by_cases h1 : (ns.length : Int) > 24
  · rw [if_pos h1]; exact Ev.pos h1 (Ev.now _)
  rw [if_neg h1]
  refine Ev.neg h1 ?_
  exact val_l0_ev ns [] [] rfl (by simpa using (by omega : ns.length ≤ 24)) (by rw [List.nil_append]; omega) (fun j hj => absurd hj (by simp))

/-! ### Eval -/
/-- Each node is in order behind those in front of it. -/
def okL : List S62 → List S47 → Prop
  | _, [] => True
  | l, n :: t => ncode l n = 0 ∧ okL (l ++ [shp l n]) t
theorem okL_of_val {N : Nat} : ∀ (rest : List S47) (l : List S62), valL N l rest = (0, 0) → okL l rest := by
  intro rest
  induction rest with
  | nil => intro l _; trivial
  | cons n t ih =>
    intro l h
    unfold valL at h
    by_cases hc : ncode l n = 0
    · rw [if_pos hc] at h
      exact ⟨hc, ih _ h⟩
    · rw [if_neg hc] at h
      exact absurd (congrArg Prod.fst h) hc
theorem polV_ok {ns : List S47} (h : polV ns = (0, 0)) : 0 < ns.length ∧ ns.length ≤ 24 ∧ okL [] ns ∧ valL ns.length [] ns = (0, 0) := by
  unfold polV at h
  split at h
  · exact absurd (congrArg Prod.fst h) (by decide)
  split at h
  · exact absurd (congrArg Prod.fst h) (by decide)
  exact ⟨by omega, by omega, okL_of_val _ _ h, h⟩
theorem valL_zero {N : Nat} : ∀ (rest : List S47) (l : List S62), (valL N l rest).1 = 0 → valL N l rest = (0, 0) := by
  intro rest
  induction rest with
  | nil =>
    intro l h
    unfold valL at h ⊢
    split at h
    · split at h
      · exact absurd h (by decide)
      · rename_i h1 h2
        rw [if_pos h1, if_neg h2]
    · exact absurd h (by decide)
  | cons n t ih =>
    intro l h
    unfold valL at h ⊢
    by_cases hc : ncode l n = 0
    · rw [if_pos hc] at h ⊢
      exact ih _ h
    · rw [if_neg hc] at h
      exact absurd h hc
theorem polV_zero {ns : List S47} (h : (polV ns).1 = 0) : polV ns = (0, 0) := by
  unfold polV at h ⊢
  split at h
  · exact absurd h (by decide)
  split at h
  · exact absurd h (by decide)
  rename_i h1 h2
  rw [if_neg h1, if_neg h2]
  exact valL_zero _ _ h
def bitB (u j : Int) : Bool := (Go.bits .and .i64 (shr .i64 u j) 1) == 1
def evN (v : List Bool) (n : S47) (a0 : Int) (a1 a2 : Bool) (a3 : Int) : Bool :=
  if n.f0 = 1 then decide (a0 ≥ n.f1) else if n.f0 = 2 then a1 else if n.f0 = 3 then a2 else if n.f0 = 4 then bitB a3 n.f1
  else if n.f0 = 5 then !(rdOf false v n.f2) else if n.f0 = 6 then (rdOf false v n.f2 && rdOf false v n.f3) else (rdOf false v n.f2 || rdOf false v n.f3)
def evL (a0 : Int) (a1 a2 : Bool) (a3 : Int) : List Bool → List S47 → List Bool
  | v, [] => v
  | v, n :: t => evL a0 a1 a2 a3 (v ++ [evN v n a0 a1 a2 a3]) t
theorem evL_length (a0 : Int) (a1 a2 : Bool) (a3 : Int) : ∀ (rest : List S47) (v : List Bool), (evL a0 a1 a2 a3 v rest).length = v.length + rest.length := by
  intro rest
  induction rest with
  | nil => intro v; rfl
  | cons n t ih => intro v; unfold evL; rw [ih, List.length_append, List.length_singleton, List.length_cons]; omega
theorem eval_l0_ev (a0 : Int) (a1 a2 : Bool) (a3 : Int) : ∀ (rest pre : List S47) (l : List S62) (v : List Bool), pre.length = l.length → v.length = l.length → (pre ++ rest).length ≤ 24 → (pre ++ rest).length ≠ 0 → Inv l → okL l rest →
    Ev (fun k => policy_Eval.l0 k v (pre ++ rest) ((pre ++ rest).length : Int) (l.length : Int) a0 a1 a2 a3) (rdOf false (evL a0 a1 a2 a3 v rest) (((pre ++ rest).length : Int) - 1), 0, 0) := by
  intro rest
  induction rest with
  | nil =>
    intro pre l v hp hvl hn h0 hv _
    rw [List.append_nil] at *
    refine Ev.succ ?_
    unfold policy_Eval.l0 evL
    have e1 : wrap64 ((v.length : Int) - 1) = (v.length : Int) - 1 := w64 (by omega) (by omega)
    refine Ev.neg (by omega) ?_
    rw [e1]
    refine Ev.pos (by omega) (Ev.pos (by omega) ?_)
    have e2 : (v.length : Int) - 1 = (pre.length : Int) - 1 := by omega
    rw [e2]
    exact Ev.now _
  | cons n t ih =>
    intro pre l v hp hvl hn h0 hv hok
    have hlen : (pre ++ n :: t).length = pre.length + (t.length + 1) := by rw [List.length_append, List.length_cons]
    have hc := hok.1
    have hk := code_ok hc
    refine Ev.succ ?_
    unfold policy_Eval.l0 evL
    have er : rd_T47 (pre ++ n :: t) (l.length : Int) = n := by rw [← hp]; exact rd_mid
    have e1 : wrap64 ((l.length : Int) + 1) = ((l.length + 1 : Nat) : Int) := by rw [w64 (by omega) (by omega)]; omega
    have hvs : v.length < 140737488355328 := by omega
    rw [er, e1]
    refine Ev.pos (by omega) (Ev.pos (by omega) (Ev.pos (by omega) ?_))
    have key : ∀ b, b = evN v n a0 a1 a2 a3 → Ev (fun k => policy_Eval.l0 k (v ++ [b]) (pre ++ n :: t) ((pre ++ n :: t).length : Int) ((l.length + 1 : Nat) : Int) a0 a1 a2 a3)
        (rdOf false (evL a0 a1 a2 a3 (v ++ [evN v n a0 a1 a2 a3]) t) (((pre ++ n :: t).length : Int) - 1), 0, 0) := by
      intro b hb
      subst hb
      have := ih (pre ++ [n]) (l ++ [shp l n]) (v ++ [evN v n a0 a1 a2 a3]) (by simp [hp]) (by simp [hvl]) (by simpa using hn) (by simp) (hv.push (shp_inv hv hc).1 (shp_inv hv hc).2) hok.2
      rw [List.append_assoc, List.singleton_append] at this
      simpa only [List.length_append, List.length_singleton] using this
    by_cases k1 : n.f0 = 1
    · exact Ev.pos k1 (Ev.pos hvs (key _ (by unfold evN; rw [if_pos k1])))
    refine Ev.neg k1 ?_
    by_cases k2 : n.f0 = 2
    · exact Ev.pos k2 (Ev.pos hvs (key _ (by unfold evN; rw [if_neg k1, if_pos k2])))
    refine Ev.neg k2 ?_
    by_cases k3 : n.f0 = 3
    · exact Ev.pos k3 (Ev.pos hvs (key _ (by unfold evN; rw [if_neg k1, if_neg k2, if_pos k3])))
    refine Ev.neg k3 ?_
    by_cases k4 : n.f0 = 4
    · exact Ev.pos k4 (Ev.pos hk.2.1.1 (Ev.pos hvs (key _ (by unfold evN bitB; rw [if_neg k1, if_neg k2, if_neg k3, if_pos k4]))))
    refine Ev.neg k4 ?_
    have hc5 := kids hv hc (by omega)
    by_cases k5 : n.f0 = 5
    · exact Ev.pos k5 (Ev.pos hc5.1.1 (Ev.pos (by omega) (Ev.pos hvs (key _ (by unfold evN; rw [if_neg k1, if_neg k2, if_neg k3, if_neg k4, if_pos k5])))))
    refine Ev.neg k5 ?_
    have hc6 := hc5.2 (by omega)
    by_cases k6 : n.f0 = 6
    · refine Ev.pos k6 (Ev.pos hc5.1.1 (Ev.pos (by omega) ?_))
      by_cases hb : rdOf false v n.f2 = true
      · exact Ev.pos hb (Ev.pos hc6.1 (Ev.pos (by omega) (Ev.pos hvs (key _ (by unfold evN; rw [if_neg k1, if_neg k2, if_neg k3, if_neg k4, if_neg k5, if_pos k6, hb, Bool.true_and])))))
      · exact Ev.neg hb (Ev.pos hvs (key _ (by unfold evN; rw [if_neg k1, if_neg k2, if_neg k3, if_neg k4, if_neg k5, if_pos k6, Bool.eq_false_iff.mpr hb, Bool.false_and])))
    refine Ev.neg k6 (Ev.pos hc5.1.1 (Ev.pos (by omega) ?_))
    by_cases hb : rdOf false v n.f2 = true
    · exact Ev.pos hb (Ev.pos hvs (key _ (by unfold evN; rw [if_neg k1, if_neg k2, if_neg k3, if_neg k4, if_neg k5, if_neg k6, hb, Bool.true_or])))
    · exact Ev.neg hb (Ev.pos hc6.1 (Ev.pos (by omega) (Ev.pos hvs (key _ (by unfold evN; rw [if_neg k1, if_neg k2, if_neg k3, if_neg k4, if_neg k5, if_neg k6, Bool.eq_false_iff.mpr hb, Bool.false_or])))))
def badF (a0 a3 : Int) : Prop := a0 < -1000000000 ∨ a0 > 1000000000 ∨ a3 < 0 ∨ a3 ≥ 256
instance (a0 a3 : Int) : Decidable (badF a0 a3) := by unfold badF; infer_instance
def polVal (ns : List S47) (a0 : Int) (a1 a2 : Bool) (a3 : Int) : Bool := rdOf false (evL a0 a1 a2 a3 [] ns) ((ns.length : Int) - 1)
def polE (ns : List S47) (a0 : Int) (a1 a2 : Bool) (a3 : Int) : Bool × Int × Int :=
  if polV ns = (0, 0) then (if badF a0 a3 then (false, 3, -2) else (polVal ns a0 a1 a2 a3, 0, 0)) else (false, (polV ns).1, (polV ns).2)
theorem Eval_ev (ns : List S47) (a0 : Int) (a1 a2 : Bool) (a3 : Int) : Ev (fun k => policy_Eval.f k ns a0 a1 a2 a3) (polE ns a0 a1 a2 a3) := by
  unfold policy_Eval.f polE
  refine Ev.bind (Validate_ev ns) ?_
  by_cases hv : polV ns = (0, 0)
  · rw [if_pos hv]
    refine Ev.pos (by rw [hv]; rfl) ?_
    obtain ⟨h0, h1, hok, _⟩ := polV_ok hv
    have J : ∀ x : Bool, (x = true ↔ badF a0 a3) → Ev (fun k => policy_Eval.j0 k x ns a0 a1 a2 a3) (if badF a0 a3 then (false, 3, -2) else (polVal ns a0 a1 a2 a3, 0, 0)) := by
      intro x hx
      refine Ev.succ ?_
      unfold policy_Eval.j0
      by_cases hb : badF a0 a3
      · rw [if_pos hb]
        exact Ev.pos (hx.mpr hb) (Ev.now _)
      · rw [if_neg hb]
        refine Ev.neg (fun e => hb (hx.mp e)) ?_
        exact eval_l0_ev a0 a1 a2 a3 ns [] [] [] rfl rfl (by simpa using h1) (by rw [List.nil_append]; omega) (fun j hj => absurd hj (by simp)) hok
    by_cases b1 : a0 < -1000000000
    · exact Ev.pos b1 (J true (by simp only [true_iff]; exact .inl b1))
    refine Ev.neg b1 ?_
    by_cases b2 : a0 > 1000000000
    · exact Ev.pos b2 (J true (by simp only [true_iff]; exact .inr (.inl b2)))
    refine Ev.neg b2 ?_
    by_cases b3 : a3 < 0
    · exact Ev.pos b3 (J true (by simp only [true_iff]; exact .inr (.inr (.inl b3))))
    refine Ev.neg b3 (J _ ?_)
    rw [decide_eq_true_iff]
    unfold badF
    omega
  · rw [if_neg hv]
    refine Ev.neg (fun e => hv ?_) (Ev.now _)
    rw [Bool.and_eq_true, beq_iff_eq, beq_iff_eq] at e
    exact Prod.ext e.1 e.2
end Go.Proofs.YtblkkhddefnkpaaDoor.Pure
