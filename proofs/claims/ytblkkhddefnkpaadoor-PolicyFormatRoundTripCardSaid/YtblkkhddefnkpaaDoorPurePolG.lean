/- POLICY: the plain law of Parse at the text of a tree -/
import Derived.Test.YtblkkhddefnkpaaDoorPurePolS
import Derived.Test.YtblkkhddefnkpaaDoorPp
namespace Go.Proofs.YtblkkhddefnkpaaDoor.Pure
open Go.RowKit Go.Proofs.YtblkkhddefnkpaaDoorW.PrintWords Go.Proofs.YtblkkhddefnkpaaDoorW.PrintLast Go.Proofs.YtblkkhddefnkpaaDoorW.PrintMore Go.Proofs.YtblkkhddefnkpaaDoor.PPo
set_option linter.unusedVariables false
abbrev kNot : ByteArray := ⟨#[110, 111, 116]⟩
abbrev kAnd : ByteArray := ⟨#[97, 110, 100]⟩
abbrev kOr : ByteArray := ⟨#[111, 114]⟩
theorem acc_yes {t : ByteArray} {x y : Wd} {tl : List Wd} {ns : List S47} (h : wt x = t.toList) : pAcc t ⟨x :: y :: tl, ns, 0, 0⟩ = some (true, ⟨y :: tl, ns, 0, 0⟩) := by
  show (if x.1.toList = t.toList ∧ (0 : Int) = 0 ∧ (0 : Int) = 0 then _ else _) = _
  rw [if_pos ⟨h, rfl, rfl⟩]
theorem acc_no {t : ByteArray} {x : Wd} {tl : List Wd} {ns : List S47} (h : wt x ≠ t.toList) : pAcc t ⟨x :: tl, ns, 0, 0⟩ = some (false, ⟨x :: tl, ns, 0, 0⟩) := by
  show (if x.1.toList = t.toList ∧ (0 : Int) = 0 ∧ (0 : Int) = 0 then _ else _) = _
  rw [if_neg (fun e => h e.1)]
theorem add_eq {n : S47} {ws : List Wd} {ns : List S47} (h : ns.length < 1000000) : pAdd n ⟨ws, ns, 0, 0⟩ = some ((ns.length : Int), ⟨ws, ns ++ [n], 0, 0⟩) := by
  unfold pAdd
  rw [if_pos h]
theorem num_eq {kind n : Int} {x y : Wd} {tl : List Wd} {ns : List S47} (h0 : 0 ≤ n) (h1 : n ≤ 8) (hk : n ≤ hiM kind) (hx : wt x = dg n) (hl : ns.length < 1000000) :
    numM kind ⟨x :: y :: tl, ns, 0, 0⟩ = some ((ns.length : Int), ⟨y :: tl, ns ++ [⟨kind, n, 0, 0⟩], 0, 0⟩) := by
  unfold wt at hx
  have e1 : Lib.atoiAll x.1.data.toList = .ok n := by
    rw [← ByteArray.toList_eq, hx, dg_small h0 h1]
    have : n = 0 ∨ n = 1 ∨ n = 2 ∨ n = 3 ∨ n = 4 ∨ n = 5 ∨ n = 6 ∨ n = 7 ∨ n = 8 := by omega
    rcases this with rfl | rfl | rfl | rfl | rfl | rfl | rfl | rfl | rfl <;> decide
  have e2 : x.1.size ≤ 1000 := by
    have : x.1.toList.length = 1 := by rw [hx, dg_small h0 h1]; rfl
    rw [ByteArray.toList_eq, Array.length_toList] at this
    show x.1.data.size ≤ 1000
    omega
  unfold numM
  dsimp only
  rw [e1]
  dsimp only
  rw [if_pos ⟨h0, by omega, e2⟩, if_pos (by rw [hx]; rfl), if_neg (by omega)]
  show (some (⟨y :: tl, ns, 0, 0⟩ : PS)).bind _ = _
  rw [Option.bind_some, add_eq hl]
/-! ### what the parser does with the words of a tree -/
def RLb (l : Int) (s : PS) (r : Int × PS) : Prop := ∃ N, ∀ k m, N ≤ k → N ≤ m → rowL (fac k) kAnd 6 m l s = some r
def RLe (l : Int) (s : PS) (r : Int × PS) : Prop := ∃ N, ∀ k m, N ≤ k → N ≤ m → rowL (bothM (fac k) k) kOr 7 m l s = some r
def endO (t : T) (y : Wd) (tl : List Wd) (ns : List S47) : Int × PS := ((ns.length : Int) + t.size - 1, ⟨y :: tl, ns ++ lay ns.length t, 0, 0⟩)
def PF (ws : List (List UInt8)) (t : T) : Prop := ∀ us, us.map wt = ws → ∀ (y : Wd) (tl : List Wd) (ns : List S47), ns.length + t.size ≤ 1000 → Ev (fun k => fac k ⟨us ++ y :: tl, ns, 0, 0⟩) (endO t y tl ns)
def PB (ws : List (List UInt8)) (t : T) : Prop := ∀ us, us.map wt = ws → ∀ (y : Wd) (tl : List Wd) (ns : List S47) (r : Int × PS), ns.length + t.size ≤ 1000 → RLb (endO t y tl ns).1 (endO t y tl ns).2 r → Ev (fun k => bothM (fac k) k ⟨us ++ y :: tl, ns, 0, 0⟩) r
def PE (ws : List (List UInt8)) (t : T) : Prop := ∀ us, us.map wt = ws → ∀ (y : Wd) (tl : List Wd) (ns : List S47) (r : Int × PS), ns.length + t.size ≤ 1000 → wt y ≠ [97, 110, 100] → RLe (endO t y tl ns).1 (endO t y tl ns).2 r → Ev (fun k => eithM (fac k) k ⟨us ++ y :: tl, ns, 0, 0⟩) r
theorem and_list : kAnd.toList = [97, 110, 100] := by rw [ByteArray.toList_eq]
theorem or_list : kOr.toList = [111, 114] := by rw [ByteArray.toList_eq]
theorem RLb.stop {l : Int} {y : Wd} {tl : List Wd} {ns : List S47} (h : wt y ≠ [97, 110, 100]) : RLb l ⟨y :: tl, ns, 0, 0⟩ (l, ⟨y :: tl, ns, 0, 0⟩) := by
  refine ⟨1, fun k m hk hm => ?_⟩
  obtain ⟨m, rfl⟩ : ∃ j, m = j + 1 := ⟨m - 1, by omega⟩
  unfold rowL
  rw [acc_no (by rw [and_list]; exact h)]
  rfl
theorem RLe.stop {l : Int} {y : Wd} {tl : List Wd} {ns : List S47} (h : wt y ≠ [111, 114]) : RLe l ⟨y :: tl, ns, 0, 0⟩ (l, ⟨y :: tl, ns, 0, 0⟩) := by
  refine ⟨1, fun k m hk hm => ?_⟩
  obtain ⟨m, rfl⟩ : ∃ j, m = j + 1 := ⟨m - 1, by omega⟩
  unfold rowL
  rw [acc_no (by rw [or_list]; exact h)]
  rfl
theorem PB.ofF {ws : List (List UInt8)} {t : T} (h : PF ws t) : PB ws t := by
  intro us hu y tl ns r hs hr
  obtain ⟨N, hN⟩ := h us hu y tl ns hs
  obtain ⟨M, hM⟩ := hr
  refine ⟨max N M, fun k hk => ?_⟩
  show rowM (fac k) kAnd 6 k _ = _
  unfold rowM
  have h0 := hN k (by omega)
  dsimp only at h0
  rw [h0, Option.bind_some]
  exact hM k k (by omega) (by omega)
/-- What stands at the level of 'and', where no 'and' follows. -/
theorem PB.done {ws : List (List UInt8)} {t : T} (h : PB ws t) {us : List Wd} (hu : us.map wt = ws) {y : Wd} {tl : List Wd} {ns : List S47} (hs : ns.length + t.size ≤ 1000) (hy : wt y ≠ [97, 110, 100]) :
    Ev (fun k => bothM (fac k) k ⟨us ++ y :: tl, ns, 0, 0⟩) (endO t y tl ns) := h us hu y tl ns _ hs (RLb.stop hy)
theorem PE.ofB {ws : List (List UInt8)} {t : T} (h : PB ws t) : PE ws t := by
  intro us hu y tl ns r hs hy hr
  obtain ⟨N, hN⟩ := h.done hu hs hy (tl := tl)
  obtain ⟨M, hM⟩ := hr
  refine ⟨max N M, fun k hk => ?_⟩
  show rowM (bothM (fac k) k) kOr 7 k _ = _
  unfold rowM
  have h0 := hN k (by omega)
  dsimp only at h0
  rw [h0, Option.bind_some]
  exact hM k k (by omega) (by omega)
theorem split_map {us : List Wd} {a b : List (List UInt8)} (h : us.map wt = a ++ b) : ∃ u v, us = u ++ v ∧ u.map wt = a ∧ v.map wt = b := by
  obtain ⟨u, v, e, h1, h2⟩ := List.map_eq_append_iff.mp h
  exact ⟨u, v, e, h1, h2⟩
theorem split_cons {us : List Wd} {a : List UInt8} {b : List (List UInt8)} (h : us.map wt = a :: b) : ∃ x v, us = x :: v ∧ wt x = a ∧ v.map wt = b := by
  obtain ⟨x, v, e, h1, h2⟩ := List.map_eq_cons_iff.mp h
  exact ⟨x, v, e, h1, h2⟩
theorem lay_bin (ns : List S47) (k : Int) (l r : T) : ns ++ lay ns.length (.bin k l r) = (ns ++ lay ns.length l) ++ lay (ns ++ lay ns.length l).length r ++ [⟨k, 0, (ns.length : Int) + l.size - 1, ((ns ++ lay ns.length l).length : Int) + r.size - 1⟩] := by
  rw [List.length_append, lay_length]
  simp only [lay, List.append_assoc]
  rw [show ((ns.length + l.size : Nat) : Int) = (ns.length : Int) + l.size by omega]
theorem PB.bin {wl wr : List (List UInt8)} {l r : T} (hl : PB wl l) (hr : PF wr r) : PB (wl ++ ([97, 110, 100] :: wr)) (.bin 6 l r) := by
  intro us hu y tl ns q hs hq
  have hsz : (T.bin 6 l r).size = l.size + r.size + 1 := rfl
  have hp := r.size_pos
  obtain ⟨ul, v, rfl, e1, e2⟩ := split_map hu
  obtain ⟨x, ur, rfl, e3, e4⟩ := split_cons e2
  rw [List.append_assoc, List.cons_append]
  refine hl ul e1 x (ur ++ y :: tl) ns q (by omega) ?_
  have h1 := hr ur e4 y tl (ns ++ lay ns.length l) (by rw [List.length_append, lay_length]; omega)
  obtain ⟨N, hN⟩ := h1
  obtain ⟨M, hM⟩ := hq
  refine ⟨max N M + 1, fun k m hk hm => ?_⟩
  obtain ⟨m, rfl⟩ : ∃ j, m = j + 1 := ⟨m - 1, by omega⟩
  show rowL (fac k) kAnd 6 (m + 1) ((ns.length : Int) + l.size - 1) ⟨x :: (ur ++ y :: tl), ns ++ lay ns.length l, 0, 0⟩ = _
  obtain ⟨z, zl, ez⟩ : ∃ z zl, ur ++ y :: tl = z :: zl := by cases ur with | nil => exact ⟨_, _, rfl⟩ | cons a b => exact ⟨_, _, rfl⟩
  have h2 := hN k (by omega)
  dsimp only at h2
  rw [ez] at h2 ⊢
  unfold rowL
  rw [acc_yes (by rw [e3, and_list]), Option.bind_some]
  dsimp only
  rw [if_pos rfl, h2, Option.bind_some]
  unfold endO
  dsimp only
  rw [add_eq (by rw [List.length_append, List.length_append, lay_length, lay_length]; omega), Option.bind_some]
  dsimp only
  have h3 := hM k m (by omega) (by omega)
  unfold endO at h3
  dsimp only at h3
  rw [lay_bin] at h3
  rw [← h3]
  congr 1
  rw [List.length_append, List.length_append, lay_length, lay_length, hsz]
  omega
theorem PE.bin {wl wr : List (List UInt8)} {l r : T} (hl : PE wl l) (hr : PB wr r) : PE (wl ++ ([111, 114] :: wr)) (.bin 7 l r) := by
  intro us hu y tl ns q hs hy hq
  have hsz : (T.bin 7 l r).size = l.size + r.size + 1 := rfl
  have hp := r.size_pos
  obtain ⟨ul, v, rfl, e1, e2⟩ := split_map hu
  obtain ⟨x, ur, rfl, e3, e4⟩ := split_cons e2
  rw [List.append_assoc, List.cons_append]
  refine hl ul e1 x (ur ++ y :: tl) ns q (by omega) (by rw [e3]; decide) ?_
  have h1 := hr.done e4 (y := y) (tl := tl) (ns := ns ++ lay ns.length l) (by rw [List.length_append, lay_length]; omega) hy
  obtain ⟨N, hN⟩ := h1
  obtain ⟨M, hM⟩ := hq
  refine ⟨max N M + 1, fun k m hk hm => ?_⟩
  obtain ⟨m, rfl⟩ : ∃ j, m = j + 1 := ⟨m - 1, by omega⟩
  show rowL (bothM (fac k) k) kOr 7 (m + 1) ((ns.length : Int) + l.size - 1) ⟨x :: (ur ++ y :: tl), ns ++ lay ns.length l, 0, 0⟩ = _
  obtain ⟨z, zl, ez⟩ : ∃ z zl, ur ++ y :: tl = z :: zl := by cases ur with | nil => exact ⟨_, _, rfl⟩ | cons a b => exact ⟨_, _, rfl⟩
  have h2 := hN k (by omega)
  dsimp only at h2
  rw [ez] at h2 ⊢
  unfold rowL
  rw [acc_yes (by rw [e3, or_list]), Option.bind_some]
  dsimp only
  rw [if_pos rfl, h2, Option.bind_some]
  unfold endO
  dsimp only
  rw [add_eq (by rw [List.length_append, List.length_append, lay_length, lay_length]; omega), Option.bind_some]
  dsimp only
  have h3 := hM k m (by omega) (by omega)
  unfold endO at h3
  dsimp only at h3
  rw [lay_bin] at h3
  rw [← h3]
  congr 1
  rw [List.length_append, List.length_append, lay_length, lay_length, hsz]
  omega
theorem fac_succ {s : PS} {r : Int × PS} (h : Ev (fun k => facT (fac k) (eithM (fac k) k) s) r) : Ev (fun k => fac k s) r := Ev.succ h
theorem lit3 (a b c : UInt8) : (⟨#[a, b, c]⟩ : ByteArray).toList = [a, b, c] := by rw [ByteArray.toList_eq]
theorem facT_not {f e : PS → Option (Int × PS)} {x y : Wd} {tl : List Wd} {ns : List S47} (h : wt x = [110, 111, 116]) : facT f e ⟨x :: y :: tl, ns, 0, 0⟩ = (f ⟨y :: tl, ns, 0, 0⟩).bind fun b => pAdd ⟨5, 0, b.1, 0⟩ b.2 := by
  unfold facT
  rw [acc_yes (by rw [h, ByteArray.toList_eq]), Option.bind_some, if_pos rfl]
theorem facT_par {f e : PS → Option (Int × PS)} {x y : Wd} {tl : List Wd} {ns : List S47} (h : wt x = [40]) : facT f e ⟨x :: y :: tl, ns, 0, 0⟩ = (e ⟨y :: tl, ns, 0, 0⟩).bind fun b => (pAcc (⟨#[41]⟩ : ByteArray) b.2).bind fun c => if c.1 = true then some (b.1, c.2) else (pFail 1 c.2).bind fun d => some (b.1, d) := by
  unfold facT
  rw [acc_no (by rw [h, ByteArray.toList_eq]; decide), Option.bind_some, if_neg Bool.false_ne_true, acc_yes (by rw [h, ByteArray.toList_eq]), Option.bind_some, if_pos rfl]
theorem facT_score {f e : PS → Option (Int × PS)} {x y : Wd} {tl : List Wd} {ns : List S47} (h : wt x = [115, 99, 111, 114, 101]) : facT f e ⟨x :: y :: tl, ns, 0, 0⟩ = numM 1 ⟨y :: tl, ns, 0, 0⟩ := by
  unfold facT
  rw [acc_no (by rw [h, ByteArray.toList_eq]; decide), Option.bind_some, if_neg Bool.false_ne_true, acc_no (by rw [h, ByteArray.toList_eq]; decide), Option.bind_some, if_neg Bool.false_ne_true, acc_yes (by rw [h, ByteArray.toList_eq]), Option.bind_some, if_pos rfl]
theorem facT_user {f e : PS → Option (Int × PS)} {x y : Wd} {tl : List Wd} {ns : List S47} (h : wt x = [117, 115, 101, 114]) : facT f e ⟨x :: y :: tl, ns, 0, 0⟩ = numM 4 ⟨y :: tl, ns, 0, 0⟩ := by
  unfold facT
  rw [acc_no (by rw [h, ByteArray.toList_eq]; decide), Option.bind_some, if_neg Bool.false_ne_true, acc_no (by rw [h, ByteArray.toList_eq]; decide), Option.bind_some, if_neg Bool.false_ne_true, acc_no (by rw [h, ByteArray.toList_eq]; decide), Option.bind_some, if_neg Bool.false_ne_true, acc_yes (by rw [h, ByteArray.toList_eq]), Option.bind_some, if_pos rfl]
theorem facT_owners {f e : PS → Option (Int × PS)} {x y : Wd} {tl : List Wd} {ns : List S47} (h : wt x = [111, 119, 110, 101, 114, 115]) : facT f e ⟨x :: y :: tl, ns, 0, 0⟩ = pAdd ⟨2, 0, 0, 0⟩ ⟨y :: tl, ns, 0, 0⟩ := by
  unfold facT
  rw [acc_no (by rw [h, ByteArray.toList_eq]; decide), Option.bind_some, if_neg Bool.false_ne_true, acc_no (by rw [h, ByteArray.toList_eq]; decide), Option.bind_some, if_neg Bool.false_ne_true, acc_no (by rw [h, ByteArray.toList_eq]; decide), Option.bind_some, if_neg Bool.false_ne_true, acc_no (by rw [h, ByteArray.toList_eq]; decide), Option.bind_some, if_neg Bool.false_ne_true, acc_yes (by rw [h, ByteArray.toList_eq]), Option.bind_some, if_pos rfl]
theorem facT_tests {f e : PS → Option (Int × PS)} {x y : Wd} {tl : List Wd} {ns : List S47} (h : wt x = [116, 101, 115, 116, 115]) : facT f e ⟨x :: y :: tl, ns, 0, 0⟩ = pAdd ⟨3, 0, 0, 0⟩ ⟨y :: tl, ns, 0, 0⟩ := by
  unfold facT
  rw [acc_no (by rw [h, ByteArray.toList_eq]; decide), Option.bind_some, if_neg Bool.false_ne_true, acc_no (by rw [h, ByteArray.toList_eq]; decide), Option.bind_some, if_neg Bool.false_ne_true, acc_no (by rw [h, ByteArray.toList_eq]; decide), Option.bind_some, if_neg Bool.false_ne_true, acc_no (by rw [h, ByteArray.toList_eq]; decide), Option.bind_some, if_neg Bool.false_ne_true, acc_no (by rw [h, ByteArray.toList_eq]; decide), Option.bind_some, if_neg Bool.false_ne_true, acc_yes (by rw [h, ByteArray.toList_eq]), Option.bind_some, if_pos rfl]
theorem PF.paren {ws : List (List UInt8)} {t : T} (h : PE ws t) : PF ([40] :: (ws ++ [[41]])) t := by
  intro us hu y tl ns hs
  obtain ⟨x, v, rfl, e1, e2⟩ := split_cons hu
  obtain ⟨u, z, rfl, e3, e4⟩ := split_map e2
  obtain ⟨p, z', rfl, e5, e6⟩ := split_cons e4
  obtain rfl := List.map_eq_nil_iff.mp e6
  have hE := h u e3 p (y :: tl) ns _ hs (by rw [e5]; decide) (RLe.stop (by rw [e5]; decide))
  have e : x :: (u ++ [p]) ++ y :: tl = x :: (u ++ p :: y :: tl) := by simp
  rw [e]
  refine fac_succ ?_
  obtain ⟨a, al, ea⟩ : ∃ z zl, u ++ p :: y :: tl = z :: zl := by cases u with | nil => exact ⟨_, _, rfl⟩ | cons a b => exact ⟨_, _, rfl⟩
  rw [ea] at hE ⊢
  have hf : ∀ k, facT (fac k) (eithM (fac k) k) ⟨x :: a :: al, ns, 0, 0⟩ = _ := fun k => facT_par e1
  simp only [hf]
  refine Ev.bind hE ?_
  unfold endO
  dsimp only
  rw [acc_yes (by rw [e5, ByteArray.toList_eq]), Option.bind_some]
  dsimp only
  rw [if_pos rfl]
  exact Ev.now _
theorem PF.neg {ws : List (List UInt8)} {t : T} (h : PF ws t) : PF ([110, 111, 116] :: ws) (.neg t) := by
  intro us hu y tl ns hs
  have hsz : (T.neg t).size = t.size + 1 := rfl
  obtain ⟨x, v, rfl, e1, e2⟩ := split_cons hu
  have hF := h v e2 y tl ns (by omega)
  rw [List.cons_append]
  refine fac_succ ?_
  obtain ⟨a, al, ea⟩ : ∃ z zl, v ++ y :: tl = z :: zl := by cases v with | nil => exact ⟨_, _, rfl⟩ | cons a b => exact ⟨_, _, rfl⟩
  rw [ea] at hF ⊢
  have hf : ∀ k, facT (fac k) (eithM (fac k) k) ⟨x :: a :: al, ns, 0, 0⟩ = _ := fun k => facT_not e1
  simp only [hf]
  refine Ev.bind hF ?_
  unfold endO
  dsimp only
  rw [add_eq (by rw [List.length_append, lay_length]; omega)]
  have e3 : ((ns ++ lay ns.length t).length : Int) = (ns.length : Int) + (T.neg t).size - 1 := by rw [List.length_append, lay_length, hsz]; omega
  have e4 : ns ++ lay ns.length (.neg t) = ns ++ lay ns.length t ++ [⟨5, 0, (ns.length : Int) + t.size - 1, 0⟩] := by simp only [lay, List.append_assoc]
  rw [e3, e4]
  exact Ev.now _
theorem PF.leaf {k n : Int} (h : (T.leaf k n).ok) : PF (wds (.leaf k n)) (.leaf k n) := by
  intro us hu y tl ns hs
  have h1 := hi_le k
  have h2 := h.2.2.2
  have hs1 : (T.leaf k n).size = 1 := rfl
  have hn : hiM k = hi k := rfl
  have er : endO (.leaf k n) y tl ns = ((ns.length : Int), ⟨y :: tl, ns ++ [⟨k, n, 0, 0⟩], 0, 0⟩) := by
    unfold endO
    rw [hs1]
    rw [show (ns.length : Int) + ((1 : Nat) : Int) - 1 = (ns.length : Int) by omega]
    rfl
  rw [er]
  unfold wds at hu
  by_cases k1 : k = 1
  · rw [if_pos k1] at hu
    subst k1
    obtain ⟨x, v, rfl, e1, e2⟩ := split_cons hu
    obtain ⟨x2, v2, rfl, e3, e4⟩ := split_cons e2
    obtain rfl := List.map_eq_nil_iff.mp e4
    refine fac_succ (Ev.const fun k => ?_)
    show facT _ _ ⟨x :: x2 :: (y :: tl), ns, 0, 0⟩ = _
    rw [facT_score e1, num_eq h.2.2.1 (by omega) (by omega) e3 (by omega)]
  rw [if_neg k1] at hu
  by_cases k2 : k = 2
  · rw [if_pos k2] at hu
    subst k2
    obtain ⟨x, v, rfl, e1, e2⟩ := split_cons hu
    obtain rfl := List.map_eq_nil_iff.mp e2
    refine fac_succ (Ev.const fun k => ?_)
    show facT _ _ ⟨x :: y :: tl, ns, 0, 0⟩ = _
    have hz : hi 2 = 0 := rfl
    have : n = 0 := by have := h.2.2.1; omega
    subst this
    rw [facT_owners e1, add_eq (by omega)]
  rw [if_neg k2] at hu
  by_cases k3 : k = 3
  · rw [if_pos k3] at hu
    subst k3
    obtain ⟨x, v, rfl, e1, e2⟩ := split_cons hu
    obtain rfl := List.map_eq_nil_iff.mp e2
    refine fac_succ (Ev.const fun k => ?_)
    show facT _ _ ⟨x :: y :: tl, ns, 0, 0⟩ = _
    have hz : hi 3 = 0 := rfl
    have : n = 0 := by have := h.2.2.1; omega
    subst this
    rw [facT_tests e1, add_eq (by omega)]
  rw [if_neg k3] at hu
  have k4 : k = 4 := by have := h.1; have := h.2.1; omega
  subst k4
  obtain ⟨x, v, rfl, e1, e2⟩ := split_cons hu
  obtain ⟨x2, v2, rfl, e3, e4⟩ := split_cons e2
  obtain rfl := List.map_eq_nil_iff.mp e4
  refine fac_succ (Ev.const fun k => ?_)
  show facT _ _ ⟨x :: x2 :: (y :: tl), ns, 0, 0⟩ = _
  rw [facT_user e1, num_eq h.2.2.1 (by omega) (by omega) e3 (by omega)]
theorem parse_tree : ∀ t : T, t.ok → (t.kind ≤ 5 → PF (wds t) t) ∧ (t.kind ≤ 6 → PB (wds t) t) ∧ PE (wds t) t := by
  intro t
  induction t with
  | leaf k n =>
    intro h
    have hF := PF.leaf h
    exact ⟨fun _ => hF, fun _ => .ofF hF, .ofB (.ofF hF)⟩
  | neg t ih =>
    intro h
    have ih := ih h
    have hF : PF (wds (.neg t)) (.neg t) := by
      unfold wds parW
      refine PF.neg ?_
      by_cases c : t.kind > 5
      · rw [if_pos c]; exact PF.paren ih.2.2
      · rw [if_neg c]; exact ih.1 (by omega)
    exact ⟨fun _ => hF, fun _ => .ofF hF, .ofB (.ofF hF)⟩
  | bin k l r ihl ihr =>
    intro h
    have ihl := ihl h.2.1
    have ihr := ihr h.2.2
    rcases h.1 with rfl | rfl
    · have hB : PB (wds (.bin 6 l r)) (.bin 6 l r) := by
        unfold wds parW
        refine PB.bin ?_ ?_
        · by_cases c : l.kind > 6
          · rw [if_pos c]; exact .ofF (PF.paren ihl.2.2)
          · rw [if_neg c]; exact ihl.2.1 (by omega)
        · by_cases c : r.kind > 6 - 1
          · rw [if_pos c]; exact PF.paren ihr.2.2
          · rw [if_neg c]; exact ihr.1 (by omega)
      exact ⟨fun c => absurd c (by show ¬ ((6 : Int) ≤ 5); decide), fun _ => hB, .ofB hB⟩
    · refine ⟨fun c => absurd c (by show ¬ ((7 : Int) ≤ 5); decide), fun c => absurd c (by show ¬ ((7 : Int) ≤ 6); decide), ?_⟩
      unfold wds parW
      refine PE.bin ?_ ?_
      · by_cases c : l.kind > 7
        · rw [if_pos c]; exact .ofB (.ofF (PF.paren ihl.2.2))
        · rw [if_neg c]; exact ihl.2.2
      · by_cases c : r.kind > 7 - 1
        · rw [if_pos c]; exact .ofF (PF.paren ihr.2.2)
        · rw [if_neg c]; exact ihr.2.1 (by omega)
theorem Parse_tree (t : T) (h : t.ok) (hv : polV (lay 0 t) = (0, 0)) (hs : (txl t).length ≤ 200) : Ev (fun k => policy_Parse.f k (B (txl t))) (lay 0 t, 0, 0) := by
  obtain ⟨us, e, hsc⟩ := scan_tree t h hs
  have h2 : t.size ≤ 24 := by
    have := (polV_ok hv).2.1
    rwa [lay_length] at this
  unfold policy_Parse.f
  rw [B_size, hsc]
  refine Ev.neg (by omega) ?_
  simp only [Option.bind_some]
  have hw : wt ((⟨#[]⟩ : ByteArray), ((txl t).length : Int)) = [] := by unfold wt; rw [ByteArray.toList_eq]
  have := (parse_tree t h).2.2 us e (⟨#[]⟩, ((txl t).length : Int)) [] [] _ (by simp only [List.length_nil]; omega) (by rw [hw]; decide) (RLe.stop (by rw [hw]; decide))
  refine Ev.bind this ?_
  have he : pEnd ⟨[((⟨#[]⟩ : ByteArray), ((txl t).length : Int))], [] ++ lay ([] : List S47).length t, 0, 0⟩ = some ⟨[((⟨#[]⟩ : ByteArray), ((txl t).length : Int))], [] ++ lay ([] : List S47).length t, 0, 0⟩ := by
    show (if (⟨#[]⟩ : ByteArray).toList = ([] : List UInt8) then _ else _) = _
    rw [if_pos (by rw [ByteArray.toList_eq])]
  dsimp only
  rw [he]
  simp only [Option.bind_some]
  refine Ev.pos (by simp) ?_
  simp only [List.nil_append, List.length_nil]
  exact Ev.bind (Validate_ev _) (Ev.pos (pair_zero.mpr hv) (Ev.now _))
end Go.Proofs.YtblkkhddefnkpaaDoor.Pure
