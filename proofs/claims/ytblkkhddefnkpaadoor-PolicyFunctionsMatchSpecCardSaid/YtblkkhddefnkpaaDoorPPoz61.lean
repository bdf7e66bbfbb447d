-- printed by drv.py (a program of this repo, over the kit's printer)
import Derived.Test.YtblkkhddefnkpaaDoorPPox0
import Derived.Test.YtblkkhddefnkpaaDoorPPox1
namespace Go.Proofs.YtblkkhddefnkpaaDoor.PPo
open Go.RowKit Go.Proofs.YtblkkhddefnkpaaDoorW.PrintWords Go.Proofs.YtblkkhddefnkpaaDoorW.PrintLast Go.Proofs.YtblkkhddefnkpaaDoorW.PrintMore
attribute [local go_sem] max2_int min2_int max_two min_two max_three min_three max_four min_four   -- for this text's walks alone
set_option linter.unusedVariables false
set_option linter.unusedSimpArgs false

attribute [local go_sem high] eqA47
/-! ### qp_: function 14 -/
def qp_.l0 : Nat → Int → List (S47) → List (S47) → Option (Bool)
 | 0, _, _, _ => none
 | k + 1, x5, x164000, x165000 => if x5 < (x164000.length : Int) then (if 0 ≤ x5 then (if x5 < (x165000.length : Int) then (if (((qj_ x164000 x5).f0) == ((qj_ x165000 x5).f0) && (((qj_ x164000 x5).f1) == ((qj_ x165000 x5).f1) && (((qj_ x164000 x5).f2) == ((qj_ x165000 x5).f2) && (((qj_ x164000 x5).f3) == ((qj_ x165000 x5).f3))))) = true then (qp_.l0 k (wrap64 (x5 + 1)) x164000 x165000) else (some false)) else (none)) else (none)) else (some true)
def qp_.f (k : Nat) (l0_0 : List (S47)) (l1_0 : List (S47)) : Option (Bool) := if (l0_0.length : Int) = (l1_0.length : Int) then (qp_.l0 k 0 l0_0 l1_0) else (some false)
theorem qp_.mono_l : ∀ k, (∀ y0 y1 y2, LeO (qp_.l0 k y0 y1 y2) (qp_.l0 (k + 1) y0 y1 y2))
 | 0 => fun _ _ _ r h => by simp [qp_.l0] at h
 | k + 1 => by
  have ih0 := qp_.mono_l k
  ·intro y0 y1 y2
   unfold qp_.l0
   repeat' first
   | (with_reducible exact ih0 _ _ _)
   | (with_reducible exact LeO.refl _)
   | (with_reducible exact LeO.none _)
   | (with_reducible refine LeO.ite ?_ ?_)
   | (with_reducible refine LeO.bind ?_ (fun _ => ?_))
   | exact ih0 _ _ _
   | exact LeO.none _
   | refine LeO.ite ?_ ?_
   | refine LeO.bind ?_ (fun _ => ?_)
theorem qp_.mono : ∀ a0 a1 k, LeO (qp_.f k a0 a1) (qp_.f (k + 1) a0 a1) := by
 intro a0 a1 k
 have ih0 := qp_.mono_l k
 unfold qp_.f
 repeat' first
   | (with_reducible exact ih0 _ _ _)
   | (with_reducible exact LeO.refl _)
   | (with_reducible exact LeO.none _)
   | (with_reducible refine LeO.ite ?_ ?_)
   | (with_reducible refine LeO.bind ?_ (fun _ => ?_))
   | exact ih0 _ _ _
   | exact LeO.none _
   | refine LeO.ite ?_ ?_
   | refine LeO.bind ?_ (fun _ => ?_)
set_option maxHeartbeats 8000000 in
set_option maxRecDepth 100000 in
theorem qp_.calls (k : Nat) (A0_0 : Option Addr) (c0_0 : Nat) (l0_0 : List (S47)) (A1_0 : Option Addr) (c1_0 : Nat) (l1_0 : List (S47)) (r : Bool) (w : World) (hr0_0 : Kd.C k47 w A0_0 l0_0.length l0_0) (hc0_0 : l0_0.length ≤ c0_0) (hr1_0 : Kd.C k47 w A1_0 l1_0.length l1_0) (hc1_0 : l1_0.length ≤ c1_0) (h : qp_.f k l0_0 l1_0 = some r) :
  Calls Tryd.prog 14 #[.agg #[.slice A0_0 l0_0.length c0_0], .agg #[.slice A1_0 l1_0.length c1_0]] w fun e w' => e = .returned (.bool r) ∧ Below w.heap.size w w' := by
 have hu24 := Tryd.underlying24
 have hu47 := Tryd.underlying47
 have HR0_0 := Aside0.mk hr0_0
 have HC0_0 := Aside0.mk hc0_0
 clear hr0_0 hc0_0
 have HR1_0 := Aside0.mk hr1_0
 have HC1_0 := Aside0.mk hc1_0
 clear hr1_0 hc1_0
 have HB := Aside0.mk (Below.refl w.heap.size w)
 have H : (if (l0_0.length : Int) = (l1_0.length : Int) then (qp_.l0 k 0 l0_0 l1_0) else (some false)) = some r := h
 clear h
 by_cases c3 : (l0_0.length : Int) = (l1_0.length : Int)
 ·rw [if_pos c3] at H
  have c3b0 : ((l0_0.length : Int) == (l1_0.length : Int)) = true := beq_iff_eq.mpr c3
  have c3b1 : ((l0_0.length : Int) != (l1_0.length : Int)) = false := bne_eq_false_iff_eq.mpr c3
  have c3b2 : (l0_0.length == l1_0.length) = true := by first | simpa using c3 | (simp at c3 ⊢; omega)
  clear c3
  have H' := Aside0.mk H
  clear H
  go_enter Tryd.func14, Tryd.ntmps14
  go_wp2_with (first | ((with_reducible refine gate_dst (N := 2) rfl ?_); refine qE_ ?hg (N := 2) ?hd (cs := #[.slice A0_0 l0_0.length c0_0]) (t := 24) ?hr ?_; (case hd => rfl); (case hg => rfl); (case hr => first | (go_simp; done) | (go_simp; rfl)); intro gb163 hg w4 hbox hb; have BK163 := Aside0.mk (hbox); have GW163 := Aside0.mk ((by rw [hg]; exact (qv_ (by repeat (first | (with_reducible first | exact HB.out | apply qh_ | apply qc_ | apply qf_) | exact HB.out))) : w.heap.size ≤ gb163)); have GE163 := Aside0.mk ((by rw [hg]; exact (qv_ (by repeat (first | (with_reducible first | exact HB.out | apply qh_ | apply qc_ | apply qf_) | exact HB.out))) : w.heap.size ≤ gb163)); replace HB := Aside0.mk (qq_ (by repeat (first | (with_reducible first | exact HB.out | apply qh_ | apply qc_ | apply qf_) | exact HB.out)) hb); clear hb hbox hg) | ((with_reducible refine gate_dst (N := 3) rfl ?_); refine qE_ ?hg (N := 3) ?hd (cs := #[.slice A1_0 l1_0.length c1_0]) (t := 24) ?hr ?_; (case hd => rfl); (case hg => rfl); (case hr => first | (go_simp; done) | (go_simp; rfl)); intro gb164 hg w5 hbox hb; have BK164 := Aside0.mk (hbox); have GW164 := Aside0.mk ((by rw [hg]; exact (qv_ (by repeat (first | (with_reducible first | exact HB.out | apply qh_ | apply qc_ | apply qf_ | refine qk_ ?_ (by assumption)) | exact HB.out))) : w.heap.size ≤ gb164)); have GE164 := Aside0.mk ((by rw [hg]; exact (qv_ (by repeat (first | (with_reducible first | exact HB.out | apply qh_ | apply qc_ | apply qf_ | refine qk_ ?_ (by assumption)) | exact HB.out))) : w.heap.size ≤ gb164)); replace HB := Aside0.mk (qq_ (by repeat (first | (with_reducible first | exact HB.out | apply qh_ | apply qc_ | apply qf_ | refine qk_ ?_ (by assumption)) | exact HB.out)) hb); have NB163_164 := Aside0.mk ((by rw [hg]; exact Nat.ne_of_lt (qB_ (g := gb163) (o := .cells #[.slice A0_0 l0_0.length c0_0] 24 (0, 0)) (by (with_reducible repeat first | apply qa_ | apply qb_ | apply blk_alloc); exact BK163.out)) : gb163 ≠ gb164)); have NB164_163 := Aside0.mk ((by rw [hg]; exact Nat.ne_of_gt (qB_ (g := gb163) (o := .cells #[.slice A0_0 l0_0.length c0_0] 24 (0, 0)) (by (with_reducible repeat first | apply qa_ | apply qb_ | apply blk_alloc); exact BK163.out)) : gb164 ≠ gb163)); replace BK163 := Aside0.mk (ql_ BK163 (by (with_reducible repeat first | apply qa_ | apply qb_ | apply blk_alloc); exact BK163.out) hb); clear hb hbox hg; have hnb6 := NB163_164.out; have hnc6 := NB164_163.out; have hcz7_0 := qg_ BK163 0 (.slice A0_0 l0_0.length c0_0) rfl; have hfz7_0 := qd_ BK163 0; have hcz8_0 := qg_ BK164 0 (.slice A1_0 l1_0.length c1_0) rfl; have hfz8_0 := qd_ BK164 0))
  go_loopg [5] k (fun kq v5 w' => ∃ (x5_1 : Int), v5 = .int .i64 x5_1 ∧ Aside0 (qp_.l0 kq x5_1 l0_0 l1_0 = some r) ∧ Aside0 (kq ≤ k) ∧ Aside0 (w'.heap[gb163]? = some (.cells #[(.slice A0_0 l0_0.length c0_0)] 24 (0, 0))) ∧ Aside0 (w'.heap[gb164]? = some (.cells #[(.slice A1_0 l1_0.length c1_0)] 24 (0, 0))) ∧ Aside0 (Below w.heap.size w w'))
  case atStart => exact ⟨(0), (by first | rfl | (simp [*]; done)), H', ⟨Nat.le_refl _⟩, ⟨by (with_reducible repeat first | apply qa_ | apply qb_ | apply blk_alloc); exact BK163.out⟩, ⟨by (with_reducible repeat first | apply qa_ | apply qb_ | apply blk_alloc); exact BK164.out⟩, ⟨by repeat (first | (with_reducible first | exact HB.out | apply qh_ | apply qc_ | apply qf_ | refine qk_ ?_ (by assumption)) | exact HB.out)⟩⟩
  case round =>
   clear H'
   obtain ⟨x5_1, rfl, HA, HK1, BK163, BK164, HB⟩ := hrel
   cases gk with
   | zero => exact absurd HA.out (by simp [qp_.l0])
   | succ k1 =>
    have H := HA.out
    clear HA
    simp only [qp_.l0] at H
    by_cases c9 : x5_1 < (l0_0.length : Int)
    ·rw [if_pos c9] at H
     have c9b0 : decide (x5_1 < (l0_0.length : Int)) = true := decide_eq_true c9
     clear c9
     by_cases c10 : 0 ≤ x5_1
     ·rw [if_pos c10] at H
      have c10b0 : decide (0 ≤ x5_1) = true := decide_eq_true c10
      clear c10
      by_cases c11 : x5_1 < (l1_0.length : Int)
      ·rw [if_pos c11] at H
       have c11b0 : decide (x5_1 < (l1_0.length : Int)) = true := decide_eq_true c11
       clear c11
       by_cases c12 : (((qj_ l0_0 x5_1).f0) == ((qj_ l1_0 x5_1).f0) && (((qj_ l0_0 x5_1).f1) == ((qj_ l1_0 x5_1).f1) && (((qj_ l0_0 x5_1).f2) == ((qj_ l1_0 x5_1).f2) && (((qj_ l0_0 x5_1).f3) == ((qj_ l1_0 x5_1).f3))))) = true
       ·rw [if_pos c12] at H
        have c12b0 : (((qj_ l0_0 x5_1).f0) == ((qj_ l1_0 x5_1).f0) && (((qj_ l0_0 x5_1).f1) == ((qj_ l1_0 x5_1).f1) && (((qj_ l0_0 x5_1).f2) == ((qj_ l1_0 x5_1).f2) && (((qj_ l0_0 x5_1).f3) == ((qj_ l1_0 x5_1).f3))))) = true := c12
        (try (have c12b1 : decide (((qj_ l0_0 x5_1).f0) = ((qj_ l1_0 x5_1).f0) && (((qj_ l0_0 x5_1).f1) == ((qj_ l1_0 x5_1).f1) && (((qj_ l0_0 x5_1).f2) == ((qj_ l1_0 x5_1).f2) && (((qj_ l0_0 x5_1).f3) == ((qj_ l1_0 x5_1).f3))))) = true := by simpa using c12))
        (try (have c12b2 : (((qj_ l0_0 x5_1).f0) == ((qj_ l1_0 x5_1).f0) && (((qj_ l0_0 x5_1).f1) == ((qj_ l1_0 x5_1).f1) && (((qj_ l0_0 x5_1).f2) == ((qj_ l1_0 x5_1).f2) && (((qj_ l0_0 x5_1).f3) == ((qj_ l1_0 x5_1).f3))))) = true := by simpa using c12))
        clear c12
        have H' := Aside0.mk H
        clear H
        have hcz14_0 := qg_ BK163 0 (.slice A0_0 l0_0.length c0_0) rfl
        have hfz14_0 := qd_ BK163 0
        have p165 : 0 ≤ (x5_1 : Int) := of_decide_eq_true (by assumption)
        have q165 : x5_1 < (l0_0.length : Int) := of_decide_eq_true (by assumption)
        obtain ⟨ad165, e165, hx165_0, hx165_1, hx165_2, hx165_3⟩ := at_T47 HR0_0.out x5_1 p165 q165
        cases e165
        replace hx165_0 := (HB.out.cell (World.block_lt_of_cell? w _ hx165_0)).trans hx165_0
        replace hx165_1 := (HB.out.cell (World.block_lt_of_cell? w _ hx165_1)).trans hx165_1
        replace hx165_2 := (HB.out.cell (World.block_lt_of_cell? w _ hx165_2)).trans hx165_2
        replace hx165_3 := (HB.out.cell (World.block_lt_of_cell? w _ hx165_3)).trans hx165_3
        replace p165 := eq_true p165
        replace q165 := eq_true q165
        have hcz15_0 := qg_ BK164 0 (.slice A1_0 l1_0.length c1_0) rfl
        have hfz15_0 := qd_ BK164 0
        have p166 : 0 ≤ (x5_1 : Int) := of_decide_eq_true (by assumption)
        have q166 : x5_1 < (l1_0.length : Int) := of_decide_eq_true (by assumption)
        obtain ⟨ad166, e166, hx166_0, hx166_1, hx166_2, hx166_3⟩ := at_T47 HR1_0.out x5_1 p166 q166
        cases e166
        replace hx166_0 := (HB.out.cell (World.block_lt_of_cell? w _ hx166_0)).trans hx166_0
        replace hx166_1 := (HB.out.cell (World.block_lt_of_cell? w _ hx166_1)).trans hx166_1
        replace hx166_2 := (HB.out.cell (World.block_lt_of_cell? w _ hx166_2)).trans hx166_2
        replace hx166_3 := (HB.out.cell (World.block_lt_of_cell? w _ hx166_3)).trans hx166_3
        replace p166 := eq_true p166
        replace q166 := eq_true q166
        go_wp2
        repeat (go_quiet (fail); try go_wp2)
        go_roundg k1
        case measure => have := HK1.out; omega
        case rel => exact ⟨(wrap64 (x5_1 + 1)), (by first | rfl | (simp [*]; done)), H', ⟨by have := HK1.out; omega⟩, ⟨by (with_reducible repeat first | apply qa_ | apply qb_ | apply blk_alloc); exact BK163.out⟩, ⟨by (with_reducible repeat first | apply qa_ | apply qb_ | apply blk_alloc); exact BK164.out⟩, ⟨by repeat (first | (with_reducible first | exact HB.out | apply qh_ | apply qc_ | apply qf_ | refine qk_ ?_ (by assumption)) | exact HB.out)⟩⟩
       ·rw [if_neg c12] at H
        have c12b0 : (((qj_ l0_0 x5_1).f0) == ((qj_ l1_0 x5_1).f0) && (((qj_ l0_0 x5_1).f1) == ((qj_ l1_0 x5_1).f1) && (((qj_ l0_0 x5_1).f2) == ((qj_ l1_0 x5_1).f2) && (((qj_ l0_0 x5_1).f3) == ((qj_ l1_0 x5_1).f3))))) = false := by simpa using c12
        (try (have c12b1 : decide (((qj_ l0_0 x5_1).f0) = ((qj_ l1_0 x5_1).f0) && (((qj_ l0_0 x5_1).f1) == ((qj_ l1_0 x5_1).f1) && (((qj_ l0_0 x5_1).f2) == ((qj_ l1_0 x5_1).f2) && (((qj_ l0_0 x5_1).f3) == ((qj_ l1_0 x5_1).f3))))) = false := by simpa using c12))
        (try (have c12b2 : (((qj_ l0_0 x5_1).f0) == ((qj_ l1_0 x5_1).f0) && (((qj_ l0_0 x5_1).f1) == ((qj_ l1_0 x5_1).f1) && (((qj_ l0_0 x5_1).f2) == ((qj_ l1_0 x5_1).f2) && (((qj_ l0_0 x5_1).f3) == ((qj_ l1_0 x5_1).f3))))) = false := by simpa using c12))
        (try (have c12b3 : ¬ (((qj_ l0_0 x5_1).f0) = ((qj_ l1_0 x5_1).f0) && (((qj_ l0_0 x5_1).f1) == ((qj_ l1_0 x5_1).f1) && (((qj_ l0_0 x5_1).f2) == ((qj_ l1_0 x5_1).f2) && (((qj_ l0_0 x5_1).f3) == ((qj_ l1_0 x5_1).f3))))) := by simpa using c12))
        clear c12
        obtain rfl := Option.some.inj H
        have hcz17_0 := qg_ BK163 0 (.slice A0_0 l0_0.length c0_0) rfl
        have hfz17_0 := qd_ BK163 0
        have p165 : 0 ≤ (x5_1 : Int) := of_decide_eq_true (by assumption)
        have q165 : x5_1 < (l0_0.length : Int) := of_decide_eq_true (by assumption)
        obtain ⟨ad165, e165, hx165_0, hx165_1, hx165_2, hx165_3⟩ := at_T47 HR0_0.out x5_1 p165 q165
        cases e165
        replace hx165_0 := (HB.out.cell (World.block_lt_of_cell? w _ hx165_0)).trans hx165_0
        replace hx165_1 := (HB.out.cell (World.block_lt_of_cell? w _ hx165_1)).trans hx165_1
        replace hx165_2 := (HB.out.cell (World.block_lt_of_cell? w _ hx165_2)).trans hx165_2
        replace hx165_3 := (HB.out.cell (World.block_lt_of_cell? w _ hx165_3)).trans hx165_3
        replace p165 := eq_true p165
        replace q165 := eq_true q165
        have hcz18_0 := qg_ BK164 0 (.slice A1_0 l1_0.length c1_0) rfl
        have hfz18_0 := qd_ BK164 0
        have p166 : 0 ≤ (x5_1 : Int) := of_decide_eq_true (by assumption)
        have q166 : x5_1 < (l1_0.length : Int) := of_decide_eq_true (by assumption)
        obtain ⟨ad166, e166, hx166_0, hx166_1, hx166_2, hx166_3⟩ := at_T47 HR1_0.out x5_1 p166 q166
        cases e166
        replace hx166_0 := (HB.out.cell (World.block_lt_of_cell? w _ hx166_0)).trans hx166_0
        replace hx166_1 := (HB.out.cell (World.block_lt_of_cell? w _ hx166_1)).trans hx166_1
        replace hx166_2 := (HB.out.cell (World.block_lt_of_cell? w _ hx166_2)).trans hx166_2
        replace hx166_3 := (HB.out.cell (World.block_lt_of_cell? w _ hx166_3)).trans hx166_3
        replace p166 := eq_true p166
        replace q166 := eq_true q166
        go_wp2
        repeat (go_quiet (fail); try go_wp2)
        go_ret
        exact ⟨by first | rfl | (simp [*] <;> rfl), by repeat (first | (with_reducible first | exact HB.out | apply qh_ | apply qc_ | apply qf_ | refine qk_ ?_ (by assumption)) | exact HB.out)⟩
      ·rw [if_neg c11] at H
       exact absurd H (by simp)
     ·rw [if_neg c10] at H
      exact absurd H (by simp)
    ·rw [if_neg c9] at H
     have c9b0 : decide (x5_1 < (l0_0.length : Int)) = false := decide_eq_false c9
     clear c9
     obtain rfl := Option.some.inj H
     have hcz20_0 := qg_ BK163 0 (.slice A0_0 l0_0.length c0_0) rfl
     have hfz20_0 := qd_ BK163 0
     go_wp2
     repeat (go_quiet (fail); try go_wp2)
     go_ret
     exact ⟨by first | rfl | (simp [*] <;> rfl), by repeat (first | (with_reducible first | exact HB.out | apply qh_ | apply qc_ | apply qf_ | refine qk_ ?_ (by assumption)) | exact HB.out)⟩
 ·rw [if_neg c3] at H
  have c3b0 : ((l0_0.length : Int) == (l1_0.length : Int)) = false := beq_eq_false_iff_ne.mpr c3
  have c3b1 : ((l0_0.length : Int) != (l1_0.length : Int)) = true := bne_iff_ne.mpr c3
  have c3b2 : (l0_0.length == l1_0.length) = false := by first | simpa using c3 | (simp at c3 ⊢; omega)
  obtain rfl := Option.some.inj H
  go_enter Tryd.func14, Tryd.ntmps14
  go_wp2_with (first | ((with_reducible refine gate_dst (N := 2) rfl ?_); refine qE_ ?hg (N := 2) ?hd (cs := #[.slice A0_0 l0_0.length c0_0]) (t := 24) ?hr ?_; (case hd => rfl); (case hg => rfl); (case hr => first | (go_simp; done) | (go_simp; rfl)); intro gb163 hg w21 hbox hb; have BK163 := Aside0.mk (hbox); have GW163 := Aside0.mk ((by rw [hg]; exact (qv_ (by repeat (first | (with_reducible first | exact HB.out | apply qh_ | apply qc_ | apply qf_) | exact HB.out))) : w.heap.size ≤ gb163)); have GE163 := Aside0.mk ((by rw [hg]; exact (qv_ (by repeat (first | (with_reducible first | exact HB.out | apply qh_ | apply qc_ | apply qf_) | exact HB.out))) : w.heap.size ≤ gb163)); replace HB := Aside0.mk (qq_ (by repeat (first | (with_reducible first | exact HB.out | apply qh_ | apply qc_ | apply qf_) | exact HB.out)) hb); clear hb hbox hg) | ((with_reducible refine gate_dst (N := 3) rfl ?_); refine qE_ ?hg (N := 3) ?hd (cs := #[.slice A1_0 l1_0.length c1_0]) (t := 24) ?hr ?_; (case hd => rfl); (case hg => rfl); (case hr => first | (go_simp; done) | (go_simp; rfl)); intro gb164 hg w22 hbox hb; have BK164 := Aside0.mk (hbox); have GW164 := Aside0.mk ((by rw [hg]; exact (qv_ (by repeat (first | (with_reducible first | exact HB.out | apply qh_ | apply qc_ | apply qf_ | refine qk_ ?_ (by assumption)) | exact HB.out))) : w.heap.size ≤ gb164)); have GE164 := Aside0.mk ((by rw [hg]; exact (qv_ (by repeat (first | (with_reducible first | exact HB.out | apply qh_ | apply qc_ | apply qf_ | refine qk_ ?_ (by assumption)) | exact HB.out))) : w.heap.size ≤ gb164)); replace HB := Aside0.mk (qq_ (by repeat (first | (with_reducible first | exact HB.out | apply qh_ | apply qc_ | apply qf_ | refine qk_ ?_ (by assumption)) | exact HB.out)) hb); have NB163_164 := Aside0.mk ((by rw [hg]; exact Nat.ne_of_lt (qB_ (g := gb163) (o := .cells #[.slice A0_0 l0_0.length c0_0] 24 (0, 0)) (by (with_reducible repeat first | apply qa_ | apply qb_ | apply blk_alloc); exact BK163.out)) : gb163 ≠ gb164)); have NB164_163 := Aside0.mk ((by rw [hg]; exact Nat.ne_of_gt (qB_ (g := gb163) (o := .cells #[.slice A0_0 l0_0.length c0_0] 24 (0, 0)) (by (with_reducible repeat first | apply qa_ | apply qb_ | apply blk_alloc); exact BK163.out)) : gb164 ≠ gb163)); replace BK163 := Aside0.mk (ql_ BK163 (by (with_reducible repeat first | apply qa_ | apply qb_ | apply blk_alloc); exact BK163.out) hb); clear hb hbox hg; have hnb23 := NB163_164.out; have hnc23 := NB164_163.out; have hcz24_0 := qg_ BK163 0 (.slice A0_0 l0_0.length c0_0) rfl; have hfz24_0 := qd_ BK163 0; have hcz25_0 := qg_ BK164 0 (.slice A1_0 l1_0.length c1_0) rfl; have hfz25_0 := qd_ BK164 0))
  go_ret
  exact ⟨by first | rfl | (simp [*] <;> rfl), by repeat (first | (with_reducible first | exact HB.out | apply qh_ | apply qc_ | apply qf_ | refine qk_ ?_ (by assumption)) | exact HB.out)⟩

end Go.Proofs.YtblkkhddefnkpaaDoor.PPo
