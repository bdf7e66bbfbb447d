-- printed by drv.py (a program of this repo, over the kit's printer)
import Derived.Test.YtblkkhddefnkpaaDoorPPox0
namespace Go.Proofs.YtblkkhddefnkpaaDoor.PPo
open Go.RowKit Go.Proofs.YtblkkhddefnkpaaDoorW.PrintWords Go.Proofs.YtblkkhddefnkpaaDoorW.PrintLast Go.Proofs.YtblkkhddefnkpaaDoorW.PrintMore
attribute [local go_sem] max2_int min2_int max_two min_two max_three min_three max_four min_four   -- for this text's walks alone
set_option linter.unusedVariables false
set_option linter.unusedSimpArgs false

/-! ### qx_: function 17 -/
mutual
def qx_.l0 : Nat → Int → Int → Int → Int → Int → Int → Option (Bool)
 | 0, _, _, _, _, _, _ => none
 | k + 1, x8, x9, x206000, x206001, x206002, x206003 => if x9 < x206001 then (qx_.l0 k (wrap64 (Int.tdiv x8 2)) (wrap64 (x9 + 1)) x206000 x206001 x206002 x206003) else (some ((Int.tmod x8 2) == 1))
def qx_.f : Nat → List (S47) → Int → Int → Bool → Bool → Int → Option (Bool)
 | 0, _, _, _, _, _, _ => none
 | k + 1, l0_0, a1, a2_0, a2_1, a2_2, a2_3 => if 0 ≤ a1 then (if a1 < (l0_0.length : Int) then (if ((qj_ l0_0 a1).f0) = 1 then (some (decide (a2_0 ≥ ((qj_ l0_0 a1).f1)))) else (if ((qj_ l0_0 a1).f0) = 2 then (some a2_1) else (if ((qj_ l0_0 a1).f0) = 3 then (some a2_2) else (if ((qj_ l0_0 a1).f0) = 4 then (qx_.l0 k a2_3 0 ((qj_ l0_0 a1).f0) ((qj_ l0_0 a1).f1) ((qj_ l0_0 a1).f2) ((qj_ l0_0 a1).f3)) else ((qx_.f k l0_0 ((qj_ l0_0 a1).f2) a2_0 a2_1 a2_2 a2_3).bind fun t206 => (if ((qj_ l0_0 a1).f0) = 5 then (some (!t206)) else ((qx_.f k l0_0 ((qj_ l0_0 a1).f3) a2_0 a2_1 a2_2 a2_3).bind fun t207 => (if ((qj_ l0_0 a1).f0) = 6 then (if t206 = true then (some t207) else (some false)) else (if t206 = true then (some true) else (some t207)))))))))) else (none)) else (none)
end
theorem qx_.mono_l : ∀ k, (∀ y0 y1 y2 y3 y4 y5, LeO (qx_.f k y0 y1 y2 y3 y4 y5) (qx_.f (k + 1) y0 y1 y2 y3 y4 y5)) ∧ (∀ y0 y1 y2 y3 y4 y5, LeO (qx_.l0 k y0 y1 y2 y3 y4 y5) (qx_.l0 (k + 1) y0 y1 y2 y3 y4 y5))
 | 0 => ⟨fun _ _ _ _ _ _ r h => by simp [qx_.f] at h, fun _ _ _ _ _ _ r h => by simp [qx_.l0] at h⟩
 | k + 1 => by
  obtain ⟨ih0, ih1⟩ := qx_.mono_l k
  refine ⟨?_, ?_⟩
  ·intro y0 y1 y2 y3 y4 y5
   unfold qx_.f
   repeat' first
   | (with_reducible exact ih0 _ _ _ _ _ _)
   | (with_reducible exact ih1 _ _ _ _ _ _)
   | (with_reducible exact LeO.refl _)
   | (with_reducible exact LeO.none _)
   | (with_reducible refine LeO.ite ?_ ?_)
   | (with_reducible refine LeO.bind ?_ (fun _ => ?_))
   | exact ih0 _ _ _ _ _ _
   | exact ih1 _ _ _ _ _ _
   | exact LeO.none _
   | refine LeO.ite ?_ ?_
   | refine LeO.bind ?_ (fun _ => ?_)
  ·intro y0 y1 y2 y3 y4 y5
   unfold qx_.l0
   repeat' first
   | (with_reducible exact ih0 _ _ _ _ _ _)
   | (with_reducible exact ih1 _ _ _ _ _ _)
   | (with_reducible exact LeO.refl _)
   | (with_reducible exact LeO.none _)
   | (with_reducible refine LeO.ite ?_ ?_)
   | (with_reducible refine LeO.bind ?_ (fun _ => ?_))
   | exact ih0 _ _ _ _ _ _
   | exact ih1 _ _ _ _ _ _
   | exact LeO.none _
   | refine LeO.ite ?_ ?_
   | refine LeO.bind ?_ (fun _ => ?_)
theorem qx_.mono : ∀ a0 a1 a2 a3 a4 a5 k, LeO (qx_.f k a0 a1 a2 a3 a4 a5) (qx_.f (k + 1) a0 a1 a2 a3 a4 a5) := by
 intro a0 a1 a2 a3 a4 a5 k
 obtain ⟨ih0, ih1⟩ := qx_.mono_l k
 exact ih0 a0 a1 a2 a3 a4 a5
set_option maxHeartbeats 8000000 in
set_option maxRecDepth 100000 in
theorem qx_.calls (k : Nat) : ∀ (A0_0 : Option Addr) (c0_0 : Nat) (l0_0 : List (S47)) (a1 : Int) (a2_0 : Int) (a2_1 : Bool) (a2_2 : Bool) (a2_3 : Int) (r : Bool) (w : World) (hr0_0 : Kd.C k47 w A0_0 l0_0.length l0_0) (hc0_0 : l0_0.length ≤ c0_0) (h : qx_.f k l0_0 a1 a2_0 a2_1 a2_2 a2_3 = some r),
  Calls Tryd.prog 17 #[.agg #[.slice A0_0 l0_0.length c0_0], .int .i64 a1, .agg #[.int .i64 a2_0, .bool a2_1, .bool a2_2, .int .i64 a2_3]] w fun e w' => e = .returned (.bool r) ∧ Below w.heap.size w w' := by
 induction k using Nat.strongRecOn with
 | _ k ih =>
 intro A0_0 c0_0 l0_0 a1 a2_0 a2_1 a2_2 a2_3 r w hr0_0 hc0_0 h
 cases k with
 | zero => exact absurd h (by simp [qx_.f])
 | succ k =>
 simp only [qx_.f] at h
 have hu24 := Tryd.underlying24
 have hu26 := Tryd.underlying26
 have hu47 := Tryd.underlying47
 have HR0_0 := Aside0.mk hr0_0
 have HC0_0 := Aside0.mk hc0_0
 clear hr0_0 hc0_0
 have HB := Aside0.mk (Below.refl w.heap.size w)
 have H : (if 0 ≤ a1 then (if a1 < (l0_0.length : Int) then (if ((qj_ l0_0 a1).f0) = 1 then (some (decide (a2_0 ≥ ((qj_ l0_0 a1).f1)))) else (if ((qj_ l0_0 a1).f0) = 2 then (some a2_1) else (if ((qj_ l0_0 a1).f0) = 3 then (some a2_2) else (if ((qj_ l0_0 a1).f0) = 4 then (qx_.l0 k a2_3 0 ((qj_ l0_0 a1).f0) ((qj_ l0_0 a1).f1) ((qj_ l0_0 a1).f2) ((qj_ l0_0 a1).f3)) else ((qx_.f k l0_0 ((qj_ l0_0 a1).f2) a2_0 a2_1 a2_2 a2_3).bind fun t206 => (if ((qj_ l0_0 a1).f0) = 5 then (some (!t206)) else ((qx_.f k l0_0 ((qj_ l0_0 a1).f3) a2_0 a2_1 a2_2 a2_3).bind fun t207 => (if ((qj_ l0_0 a1).f0) = 6 then (if t206 = true then (some t207) else (some false)) else (if t206 = true then (some true) else (some t207)))))))))) else (none)) else (none)) = some r := h
 clear h
 by_cases c4 : 0 ≤ a1
 ·rw [if_pos c4] at H
  have c4b0 : decide (0 ≤ a1) = true := decide_eq_true c4
  clear c4
  by_cases c5 : a1 < (l0_0.length : Int)
  ·rw [if_pos c5] at H
   have c5b0 : decide (a1 < (l0_0.length : Int)) = true := decide_eq_true c5
   clear c5
   go_enter Tryd.func17, Tryd.ntmps17
   go_upto_if 19 with (first | ((with_reducible refine gate_dst (N := 3) rfl ?_); refine qE_ ?hg (N := 3) ?hd (cs := #[.slice A0_0 l0_0.length c0_0]) (t := 24) ?hr ?_; (case hd => rfl); (case hg => rfl); (case hr => first | (go_simp; done) | (go_simp; rfl)); intro gb202 hg w7 hbox hb; have BK202 := Aside0.mk (hbox); have GW202 := Aside0.mk ((by rw [hg]; exact (qv_ (by repeat (first | (with_reducible first | exact HB.out | apply qh_ | apply qc_ | apply qf_) | exact HB.out))) : w.heap.size ≤ gb202)); have GE202 := Aside0.mk ((by rw [hg]; exact (qv_ (by repeat (first | (with_reducible first | exact HB.out | apply qh_ | apply qc_ | apply qf_) | exact HB.out))) : w.heap.size ≤ gb202)); replace HB := Aside0.mk (qq_ (by repeat (first | (with_reducible first | exact HB.out | apply qh_ | apply qc_ | apply qf_) | exact HB.out)) hb); clear hb hbox hg) | ((with_reducible refine gate_dst (N := 5) rfl ?_); refine qE_ ?hg (N := 5) ?hd (cs := #[.int .i64 a2_0, .bool a2_1, .bool a2_2, .int .i64 a2_3]) (t := 26) ?hr ?_; (case hd => rfl); (case hg => rfl); (case hr => first | (go_simp; done) | (go_simp; rfl)); intro gb203 hg w8 hbox hb; have BK203 := Aside0.mk (hbox); have GW203 := Aside0.mk ((by rw [hg]; exact (qv_ (by repeat (first | (with_reducible first | exact HB.out | apply qh_ | apply qc_ | apply qf_ | refine qk_ ?_ (by assumption)) | exact HB.out))) : w.heap.size ≤ gb203)); have GE203 := Aside0.mk ((by rw [hg]; exact (qv_ (by repeat (first | (with_reducible first | exact HB.out | apply qh_ | apply qc_ | apply qf_ | refine qk_ ?_ (by assumption)) | exact HB.out))) : w.heap.size ≤ gb203)); replace HB := Aside0.mk (qq_ (by repeat (first | (with_reducible first | exact HB.out | apply qh_ | apply qc_ | apply qf_ | refine qk_ ?_ (by assumption)) | exact HB.out)) hb); have NB202_203 := Aside0.mk ((by rw [hg]; exact Nat.ne_of_lt (qB_ (g := gb202) (o := .cells #[.slice A0_0 l0_0.length c0_0] 24 (0, 0)) (by (with_reducible repeat first | apply qa_ | apply qb_ | apply blk_alloc); exact BK202.out)) : gb202 ≠ gb203)); have NB203_202 := Aside0.mk ((by rw [hg]; exact Nat.ne_of_gt (qB_ (g := gb202) (o := .cells #[.slice A0_0 l0_0.length c0_0] 24 (0, 0)) (by (with_reducible repeat first | apply qa_ | apply qb_ | apply blk_alloc); exact BK202.out)) : gb203 ≠ gb202)); replace BK202 := Aside0.mk (ql_ BK202 (by (with_reducible repeat first | apply qa_ | apply qb_ | apply blk_alloc); exact BK202.out) hb); clear hb hbox hg; have hnb9 := NB202_203.out; have hnc9 := NB203_202.out; have hcz10_0 := qg_ BK202 0 (.slice A0_0 l0_0.length c0_0) rfl; have hfz10_0 := qd_ BK202 0; have p204 : 0 ≤ (a1 : Int) := of_decide_eq_true (by assumption); have q204 : a1 < (l0_0.length : Int) := of_decide_eq_true (by assumption); obtain ⟨ad204, e204, hx204_0, hx204_1, hx204_2, hx204_3⟩ := at_T47 HR0_0.out a1 p204 q204; cases e204; replace hx204_0 := (HB.out.cell (World.block_lt_of_cell? w _ hx204_0)).trans hx204_0; replace hx204_1 := (HB.out.cell (World.block_lt_of_cell? w _ hx204_1)).trans hx204_1; replace hx204_2 := (HB.out.cell (World.block_lt_of_cell? w _ hx204_2)).trans hx204_2; replace hx204_3 := (HB.out.cell (World.block_lt_of_cell? w _ hx204_3)).trans hx204_3; replace p204 := eq_true p204; replace q204 := eq_true q204) | ((with_reducible refine gate_dst (N := 7) rfl ?_); refine qE_ ?hg (N := 7) ?hd (cs := #[.int .i64 0, .int .i64 0, .int .i64 0, .int .i64 0]) (t := 47) ?hr ?_; (case hd => rfl); (case hg => rfl); (case hr => first | (go_simp; done) | (go_simp; rfl)); intro gb205 hg w11 hbox hb; have BK205 := Aside0.mk (hbox); have GW205 := Aside0.mk ((by rw [hg]; exact (qv_ (by repeat (first | (with_reducible first | exact HB.out | apply qh_ | apply qc_ | apply qf_ | refine qk_ ?_ (by assumption)) | exact HB.out))) : w.heap.size ≤ gb205)); have GE205 := Aside0.mk ((by rw [hg]; exact (qv_ (by repeat (first | (with_reducible first | exact HB.out | apply qh_ | apply qc_ | apply qf_ | refine qk_ ?_ (by assumption)) | exact HB.out))) : w.heap.size ≤ gb205)); replace HB := Aside0.mk (qq_ (by repeat (first | (with_reducible first | exact HB.out | apply qh_ | apply qc_ | apply qf_ | refine qk_ ?_ (by assumption)) | exact HB.out)) hb); have NB202_205 := Aside0.mk ((by rw [hg]; exact Nat.ne_of_lt (qB_ (g := gb202) (o := .cells #[.slice (some ad204) l0_0.length c0_0] 24 (0, 0)) (by (with_reducible repeat first | apply qa_ | apply qb_ | apply blk_alloc); exact BK202.out)) : gb202 ≠ gb205)); have NB205_202 := Aside0.mk ((by rw [hg]; exact Nat.ne_of_gt (qB_ (g := gb202) (o := .cells #[.slice (some ad204) l0_0.length c0_0] 24 (0, 0)) (by (with_reducible repeat first | apply qa_ | apply qb_ | apply blk_alloc); exact BK202.out)) : gb205 ≠ gb202)); replace BK202 := Aside0.mk (ql_ BK202 (by (with_reducible repeat first | apply qa_ | apply qb_ | apply blk_alloc); exact BK202.out) hb); have NB203_205 := Aside0.mk ((by rw [hg]; exact Nat.ne_of_lt (qB_ (g := gb203) (o := .cells #[.int .i64 a2_0, .bool a2_1, .bool a2_2, .int .i64 a2_3] 26 (0, 0)) (by (with_reducible repeat first | apply qa_ | apply qb_ | apply blk_alloc); exact BK203.out)) : gb203 ≠ gb205)); have NB205_203 := Aside0.mk ((by rw [hg]; exact Nat.ne_of_gt (qB_ (g := gb203) (o := .cells #[.int .i64 a2_0, .bool a2_1, .bool a2_2, .int .i64 a2_3] 26 (0, 0)) (by (with_reducible repeat first | apply qa_ | apply qb_ | apply blk_alloc); exact BK203.out)) : gb205 ≠ gb203)); replace BK203 := Aside0.mk (ql_ BK203 (by (with_reducible repeat first | apply qa_ | apply qb_ | apply blk_alloc); exact BK203.out) hb); clear hb hbox hg; have hnb12 := NB205_202.out; have hnc12 := NB202_205.out; have hnb13 := NB205_203.out; have hnc13 := NB203_205.out; have hcz14_0 := qg_ BK205 0 (.int .i64 0) rfl; have hcz14_1 := qg_ BK205 1 (.int .i64 0) rfl; have hcz14_2 := qg_ BK205 2 (.int .i64 0) rfl; have hcz14_3 := qg_ BK205 3 (.int .i64 0) rfl; have hfz14_0 := qd_ BK205 0; have hfz14_1 := qd_ BK205 1; have hfz14_2 := qd_ BK205 2; have hfz14_3 := qd_ BK205 3; have hcz15_0 := qg_ BK203 0 (.int .i64 a2_0) rfl; have hcz15_1 := qg_ BK203 1 (.bool a2_1) rfl; have hcz15_2 := qg_ BK203 2 (.bool a2_2) rfl; have hcz15_3 := qg_ BK203 3 (.int .i64 a2_3) rfl; have hfz15_0 := qd_ BK203 0; have hfz15_1 := qd_ BK203 1; have hfz15_2 := qd_ BK203 2; have hfz15_3 := qd_ BK203 3; have hcz63_0 := qg_ BK202 0 (.slice (some ad204) l0_0.length c0_0) rfl; have hfz63_0 := qd_ BK202 0))
   by_cases c6 : ((qj_ l0_0 a1).f0) = 1
   ·rw [if_pos c6] at H
    have c6b0 : (((qj_ l0_0 a1).f0) == 1) = true := beq_iff_eq.mpr c6
    (first | rw [c6b0] | (simp only [i64_w, i32_w]; rw [c6b0]) | skip)
    have c6b1 : (((qj_ l0_0 a1).f0) != 1) = false := bne_eq_false_iff_eq.mpr c6
    clear c6
    obtain rfl := Option.some.inj H
    go_wp2
    go_ret
    exact ⟨by first | rfl | (simp [*] <;> rfl), by repeat (first | (with_reducible first | exact HB.out | apply qh_ | apply qc_ | apply qf_ | refine qk_ ?_ (by assumption)) | exact HB.out)⟩
   ·rw [if_neg c6] at H
    have c6b0 : (((qj_ l0_0 a1).f0) == 1) = false := beq_eq_false_iff_ne.mpr c6
    (first | rw [c6b0] | (simp only [i64_w, i32_w]; rw [c6b0]) | skip)
    have c6b1 : (((qj_ l0_0 a1).f0) != 1) = true := bne_iff_ne.mpr c6
    by_cases c16 : ((qj_ l0_0 a1).f0) = 2
    ·rw [if_pos c16] at H
     have c16b0 : (((qj_ l0_0 a1).f0) == 2) = true := beq_iff_eq.mpr c16
     have c16b1 : (((qj_ l0_0 a1).f0) != 2) = false := bne_eq_false_iff_eq.mpr c16
     clear c16
     obtain rfl := Option.some.inj H
     go_wp2
     go_ret
     exact ⟨by first | rfl | (simp [*] <;> rfl), by repeat (first | (with_reducible first | exact HB.out | apply qh_ | apply qc_ | apply qf_ | refine qk_ ?_ (by assumption)) | exact HB.out)⟩
    ·rw [if_neg c16] at H
     have c16b0 : (((qj_ l0_0 a1).f0) == 2) = false := beq_eq_false_iff_ne.mpr c16
     have c16b1 : (((qj_ l0_0 a1).f0) != 2) = true := bne_iff_ne.mpr c16
     by_cases c26 : ((qj_ l0_0 a1).f0) = 3
     ·rw [if_pos c26] at H
      have c26b0 : (((qj_ l0_0 a1).f0) == 3) = true := beq_iff_eq.mpr c26
      have c26b1 : (((qj_ l0_0 a1).f0) != 3) = false := bne_eq_false_iff_eq.mpr c26
      clear c26
      obtain rfl := Option.some.inj H
      go_wp2
      go_ret
      exact ⟨by first | rfl | (simp [*] <;> rfl), by repeat (first | (with_reducible first | exact HB.out | apply qh_ | apply qc_ | apply qf_ | refine qk_ ?_ (by assumption)) | exact HB.out)⟩
     ·rw [if_neg c26] at H
      have c26b0 : (((qj_ l0_0 a1).f0) == 3) = false := beq_eq_false_iff_ne.mpr c26
      have c26b1 : (((qj_ l0_0 a1).f0) != 3) = true := bne_iff_ne.mpr c26
      by_cases c36 : ((qj_ l0_0 a1).f0) = 4
      ·rw [if_pos c36] at H
       have c36b0 : (((qj_ l0_0 a1).f0) == 4) = true := beq_iff_eq.mpr c36
       have c36b1 : (((qj_ l0_0 a1).f0) != 4) = false := bne_eq_false_iff_eq.mpr c36
       clear c36
       have H' := Aside0.mk H
       clear H
       go_wp2
       go_loopg [8, 9] k (fun kq v8 v9 w' => ∃ (x8_1 : Int) (x9_1 : Int), v8 = .int .i64 x8_1 ∧ v9 = .int .i64 x9_1 ∧ Aside0 (qx_.l0 kq x8_1 x9_1 ((qj_ l0_0 a1).f0) ((qj_ l0_0 a1).f1) ((qj_ l0_0 a1).f2) ((qj_ l0_0 a1).f3) = some r) ∧ Aside0 (kq ≤ k) ∧ Aside0 (w'.heap[gb202]? = some (.cells #[(.slice (some ad204) l0_0.length c0_0)] 24 (0, 0))) ∧ Aside0 (w'.heap[gb203]? = some (.cells #[.int .i64 a2_0, .bool a2_1, .bool a2_2, .int .i64 a2_3] 26 (0, 0))) ∧ Aside0 (w'.heap[gb205]? = some (.cells #[.int .i64 ((qj_ l0_0 a1).f0), .int .i64 ((qj_ l0_0 a1).f1), .int .i64 ((qj_ l0_0 a1).f2), .int .i64 ((qj_ l0_0 a1).f3)] 47 (0, 0))) ∧ Aside0 (Below w.heap.size w w'))
       case atStart => exact ⟨(a2_3), (0), (by first | rfl | (simp [*]; done)), (by first | rfl | (simp [*]; done)), H', ⟨Nat.le_refl _⟩, ⟨by (with_reducible repeat first | apply qa_ | apply qb_ | apply blk_alloc); refine qn_ ?_ NB202_205.out _; (with_reducible repeat first | apply qa_ | apply qb_ | apply blk_alloc); refine qn_ ?_ NB202_205.out _; (with_reducible repeat first | apply qa_ | apply qb_ | apply blk_alloc); refine qn_ ?_ NB202_205.out _; (with_reducible repeat first | apply qa_ | apply qb_ | apply blk_alloc); refine qn_ ?_ NB202_205.out _; (with_reducible repeat first | apply qa_ | apply qb_ | apply blk_alloc); exact BK202.out⟩, ⟨by (with_reducible repeat first | apply qa_ | apply qb_ | apply blk_alloc); refine qn_ ?_ NB203_205.out _; (with_reducible repeat first | apply qa_ | apply qb_ | apply blk_alloc); refine qn_ ?_ NB203_205.out _; (with_reducible repeat first | apply qa_ | apply qb_ | apply blk_alloc); refine qn_ ?_ NB203_205.out _; (with_reducible repeat first | apply qa_ | apply qb_ | apply blk_alloc); refine qn_ ?_ NB203_205.out _; (with_reducible repeat first | apply qa_ | apply qb_ | apply blk_alloc); exact BK203.out⟩, ⟨by (with_reducible repeat first | apply qa_ | apply qb_ | apply blk_alloc); refine qA_ (cs := #[.int .i64 ((qj_ l0_0 a1).f0), .int .i64 ((qj_ l0_0 a1).f1), .int .i64 ((qj_ l0_0 a1).f2), .int .i64 0]) ?_ 3 _ rfl; (with_reducible repeat first | apply qa_ | apply qb_ | apply blk_alloc); refine qA_ (cs := #[.int .i64 ((qj_ l0_0 a1).f0), .int .i64 ((qj_ l0_0 a1).f1), .int .i64 0, .int .i64 0]) ?_ 2 _ rfl; (with_reducible repeat first | apply qa_ | apply qb_ | apply blk_alloc); refine qA_ (cs := #[.int .i64 ((qj_ l0_0 a1).f0), .int .i64 0, .int .i64 0, .int .i64 0]) ?_ 1 _ rfl; (with_reducible repeat first | apply qa_ | apply qb_ | apply blk_alloc); refine qA_ (cs := #[.int .i64 0, .int .i64 0, .int .i64 0, .int .i64 0]) ?_ 0 _ rfl; (with_reducible repeat first | apply qa_ | apply qb_ | apply blk_alloc); exact BK205.out⟩, ⟨by repeat (first | (with_reducible first | exact HB.out | apply qh_ | apply qc_ | apply qf_ | refine qk_ ?_ (by assumption)) | exact HB.out)⟩⟩
       case round =>
        clear H'
        obtain ⟨x8_1, x9_1, rfl, rfl, HA, HK1, BK202, BK203, BK205, HB⟩ := hrel
        cases gk with
        | zero => exact absurd HA.out (by simp [qx_.l0])
        | succ k1 =>
         have H := HA.out
         clear HA
         simp only [qx_.l0] at H
         by_cases c46 : x9_1 < ((qj_ l0_0 a1).f1)
         ·rw [if_pos c46] at H
          have c46b0 : decide (x9_1 < ((qj_ l0_0 a1).f1)) = true := decide_eq_true c46
          clear c46
          have H' := Aside0.mk H
          clear H
          have hcz49_0 := qg_ BK205 0 (.int .i64 ((qj_ l0_0 a1).f0)) rfl
          have hcz49_1 := qg_ BK205 1 (.int .i64 ((qj_ l0_0 a1).f1)) rfl
          have hcz49_2 := qg_ BK205 2 (.int .i64 ((qj_ l0_0 a1).f2)) rfl
          have hcz49_3 := qg_ BK205 3 (.int .i64 ((qj_ l0_0 a1).f3)) rfl
          have hfz49_0 := qd_ BK205 0
          have hfz49_1 := qd_ BK205 1
          have hfz49_2 := qd_ BK205 2
          have hfz49_3 := qd_ BK205 3
          go_wp2
          go_roundg k1
          case measure => have := HK1.out; omega
          case rel => exact ⟨(wrap64 (Int.tdiv x8_1 2)), (wrap64 (x9_1 + 1)), (by first | rfl | (simp [*]; done)), (by first | rfl | (simp [*]; done)), H', ⟨by have := HK1.out; omega⟩, ⟨by (with_reducible repeat first | apply qa_ | apply qb_ | apply blk_alloc); exact BK202.out⟩, ⟨by (with_reducible repeat first | apply qa_ | apply qb_ | apply blk_alloc); exact BK203.out⟩, ⟨by (with_reducible repeat first | apply qa_ | apply qb_ | apply blk_alloc); exact BK205.out⟩, ⟨by repeat (first | (with_reducible first | exact HB.out | apply qh_ | apply qc_ | apply qf_ | refine qk_ ?_ (by assumption)) | exact HB.out)⟩⟩
         ·rw [if_neg c46] at H
          have c46b0 : decide (x9_1 < ((qj_ l0_0 a1).f1)) = false := decide_eq_false c46
          clear c46
          obtain rfl := Option.some.inj H
          have hcz52_0 := qg_ BK205 0 (.int .i64 ((qj_ l0_0 a1).f0)) rfl
          have hcz52_1 := qg_ BK205 1 (.int .i64 ((qj_ l0_0 a1).f1)) rfl
          have hcz52_2 := qg_ BK205 2 (.int .i64 ((qj_ l0_0 a1).f2)) rfl
          have hcz52_3 := qg_ BK205 3 (.int .i64 ((qj_ l0_0 a1).f3)) rfl
          have hfz52_0 := qd_ BK205 0
          have hfz52_1 := qd_ BK205 1
          have hfz52_2 := qd_ BK205 2
          have hfz52_3 := qd_ BK205 3
          go_wp2
          go_ret
          exact ⟨by first | rfl | (simp [*] <;> rfl), by repeat (first | (with_reducible first | exact HB.out | apply qh_ | apply qc_ | apply qf_ | refine qk_ ?_ (by assumption)) | exact HB.out)⟩
      ·rw [if_neg c36] at H
       have c36b0 : (((qj_ l0_0 a1).f0) == 4) = false := beq_eq_false_iff_ne.mpr c36
       have c36b1 : (((qj_ l0_0 a1).f0) != 4) = true := bne_iff_ne.mpr c36
       replace H := Option.bind_eq_some_iff.mp H
       obtain ⟨t206, A530, H⟩ := H
       replace H : (if ((qj_ l0_0 a1).f0) = 5 then (some (!t206)) else ((qx_.f k l0_0 ((qj_ l0_0 a1).f3) a2_0 a2_1 a2_2 a2_3).bind fun t207 => (if ((qj_ l0_0 a1).f0) = 6 then (if t206 = true then (some t207) else (some false)) else (if t206 = true then (some true) else (some t207))))) = some r := H
       have A53 := Aside0.mk A530
       clear A530
       by_cases c54 : ((qj_ l0_0 a1).f0) = 5
       ·rw [if_pos c54] at H
        have c54b0 : (((qj_ l0_0 a1).f0) == 5) = true := beq_iff_eq.mpr c54
        have c54b1 : (((qj_ l0_0 a1).f0) != 5) = false := bne_eq_false_iff_eq.mpr c54
        clear c54
        obtain rfl := Option.some.inj H
        go_wp2_with (first | ((with_reducible refine qs_ (f := 17) rfl ?_); refine goesL_ (some 55) rfl rfl Tryd.func17 (by kernel_rfl) rfl #[.agg #[.slice (some ad204) l0_0.length c0_0], .int .i64 ((qj_ l0_0 a1).f2), .agg #[.int .i64 a2_0, .bool a2_1, .bool a2_2, .int .i64 a2_3]] rfl (by (try simp only [List.map_toArray]); first | done | rfl) ?_; (with_reducible refine (ih k (by omega) _ _ l0_0 ((qj_ l0_0 a1).f2) a2_0 a2_1 a2_2 a2_3 t206 _ ?side1 ?side2 A53.out).mono ?_); (case side1 => exact Kd.C_below HR0_0.out (by repeat (first | (with_reducible first | exact HB.out | apply qh_ | apply qc_ | apply qf_ | refine qk_ ?_ (by assumption)) | exact HB.out))); (case side2 => exact HC0_0.out); rintro e w65 ⟨rfl, hb⟩; refine ⟨_, rfl, ?_⟩; replace BK202 := Aside0.mk (ql_ BK202 (by (with_reducible repeat first | apply qa_ | apply qb_ | apply blk_alloc); refine qn_ ?_ NB202_205.out _; (with_reducible repeat first | apply qa_ | apply qb_ | apply blk_alloc); refine qn_ ?_ NB202_205.out _; (with_reducible repeat first | apply qa_ | apply qb_ | apply blk_alloc); refine qn_ ?_ NB202_205.out _; (with_reducible repeat first | apply qa_ | apply qb_ | apply blk_alloc); refine qn_ ?_ NB202_205.out _; (with_reducible repeat first | apply qa_ | apply qb_ | apply blk_alloc); exact BK202.out) hb); replace BK203 := Aside0.mk (ql_ BK203 (by (with_reducible repeat first | apply qa_ | apply qb_ | apply blk_alloc); refine qn_ ?_ NB203_205.out _; (with_reducible repeat first | apply qa_ | apply qb_ | apply blk_alloc); refine qn_ ?_ NB203_205.out _; (with_reducible repeat first | apply qa_ | apply qb_ | apply blk_alloc); refine qn_ ?_ NB203_205.out _; (with_reducible repeat first | apply qa_ | apply qb_ | apply blk_alloc); refine qn_ ?_ NB203_205.out _; (with_reducible repeat first | apply qa_ | apply qb_ | apply blk_alloc); exact BK203.out) hb); replace BK205 := Aside0.mk (qy_ (g := gb205) (o := .cells #[.int .i64 ((qj_ l0_0 a1).f0), .int .i64 ((qj_ l0_0 a1).f1), .int .i64 ((qj_ l0_0 a1).f2), .int .i64 ((qj_ l0_0 a1).f3)] 47 (0, 0)) (by (with_reducible repeat first | apply qa_ | apply qb_ | apply blk_alloc); refine qA_ (cs := #[.int .i64 ((qj_ l0_0 a1).f0), .int .i64 ((qj_ l0_0 a1).f1), .int .i64 ((qj_ l0_0 a1).f2), .int .i64 0]) ?_ 3 _ rfl; (with_reducible repeat first | apply qa_ | apply qb_ | apply blk_alloc); refine qA_ (cs := #[.int .i64 ((qj_ l0_0 a1).f0), .int .i64 ((qj_ l0_0 a1).f1), .int .i64 0, .int .i64 0]) ?_ 2 _ rfl; (with_reducible repeat first | apply qa_ | apply qb_ | apply blk_alloc); refine qA_ (cs := #[.int .i64 ((qj_ l0_0 a1).f0), .int .i64 0, .int .i64 0, .int .i64 0]) ?_ 1 _ rfl; (with_reducible repeat first | apply qa_ | apply qb_ | apply blk_alloc); refine qA_ (cs := #[.int .i64 0, .int .i64 0, .int .i64 0, .int .i64 0]) ?_ 0 _ rfl; (with_reducible repeat first | apply qa_ | apply qb_ | apply blk_alloc); exact BK205.out) hb); replace HB := Aside0.mk (qq_ (by repeat (first | (with_reducible first | exact HB.out | apply qh_ | apply qc_ | apply qf_ | refine qk_ ?_ (by assumption)) | exact HB.out)) hb); (try clear hb); have hcz66_0 := qg_ BK205 0 (.int .i64 ((qj_ l0_0 a1).f0)) rfl; have hcz66_1 := qg_ BK205 1 (.int .i64 ((qj_ l0_0 a1).f1)) rfl; have hcz66_2 := qg_ BK205 2 (.int .i64 ((qj_ l0_0 a1).f2)) rfl; have hcz66_3 := qg_ BK205 3 (.int .i64 ((qj_ l0_0 a1).f3)) rfl; have hfz66_0 := qd_ BK205 0; have hfz66_1 := qd_ BK205 1; have hfz66_2 := qd_ BK205 2; have hfz66_3 := qd_ BK205 3))
        go_ret
        exact ⟨by first | rfl | (simp [*] <;> rfl), by repeat (first | (with_reducible first | exact HB.out | apply qh_ | apply qc_ | apply qf_ | refine qk_ ?_ (by assumption)) | exact HB.out)⟩
       ·rw [if_neg c54] at H
        have c54b0 : (((qj_ l0_0 a1).f0) == 5) = false := beq_eq_false_iff_ne.mpr c54
        have c54b1 : (((qj_ l0_0 a1).f0) != 5) = true := bne_iff_ne.mpr c54
        replace H := Option.bind_eq_some_iff.mp H
        obtain ⟨t207, A670, H⟩ := H
        replace H : (if ((qj_ l0_0 a1).f0) = 6 then (if t206 = true then (some t207) else (some false)) else (if t206 = true then (some true) else (some t207))) = some r := H
        have A67 := Aside0.mk A670
        clear A670
        by_cases c68 : ((qj_ l0_0 a1).f0) = 6
        ·rw [if_pos c68] at H
         have c68b0 : (((qj_ l0_0 a1).f0) == 6) = true := beq_iff_eq.mpr c68
         have c68b1 : (((qj_ l0_0 a1).f0) != 6) = false := bne_eq_false_iff_eq.mpr c68
         clear c68
         by_cases c69 : t206 = true
         ·subst c69
          have H1 : (some t207) = some r := by rw [if_pos rfl] at H; exact H
          clear H
          have H := H1
          clear H1
          obtain rfl := Option.some.inj H
          go_wp2_with (first | ((with_reducible refine qs_ (f := 17) rfl ?_); refine goesL_ (some 55) rfl rfl Tryd.func17 (by kernel_rfl) rfl #[.agg #[.slice (some ad204) l0_0.length c0_0], .int .i64 ((qj_ l0_0 a1).f2), .agg #[.int .i64 a2_0, .bool a2_1, .bool a2_2, .int .i64 a2_3]] rfl (by (try simp only [List.map_toArray]); first | done | rfl) ?_; (with_reducible refine (ih k (by omega) _ _ l0_0 ((qj_ l0_0 a1).f2) a2_0 a2_1 a2_2 a2_3 true _ ?side1 ?side2 A53.out).mono ?_); (case side1 => exact Kd.C_below HR0_0.out (by repeat (first | (with_reducible first | exact HB.out | apply qh_ | apply qc_ | apply qf_ | refine qk_ ?_ (by assumption)) | exact HB.out))); (case side2 => exact HC0_0.out); rintro e w80 ⟨rfl, hb⟩; refine ⟨_, rfl, ?_⟩; replace BK202 := Aside0.mk (ql_ BK202 (by (with_reducible repeat first | apply qa_ | apply qb_ | apply blk_alloc); refine qn_ ?_ NB202_205.out _; (with_reducible repeat first | apply qa_ | apply qb_ | apply blk_alloc); refine qn_ ?_ NB202_205.out _; (with_reducible repeat first | apply qa_ | apply qb_ | apply blk_alloc); refine qn_ ?_ NB202_205.out _; (with_reducible repeat first | apply qa_ | apply qb_ | apply blk_alloc); refine qn_ ?_ NB202_205.out _; (with_reducible repeat first | apply qa_ | apply qb_ | apply blk_alloc); exact BK202.out) hb); replace BK203 := Aside0.mk (ql_ BK203 (by (with_reducible repeat first | apply qa_ | apply qb_ | apply blk_alloc); refine qn_ ?_ NB203_205.out _; (with_reducible repeat first | apply qa_ | apply qb_ | apply blk_alloc); refine qn_ ?_ NB203_205.out _; (with_reducible repeat first | apply qa_ | apply qb_ | apply blk_alloc); refine qn_ ?_ NB203_205.out _; (with_reducible repeat first | apply qa_ | apply qb_ | apply blk_alloc); refine qn_ ?_ NB203_205.out _; (with_reducible repeat first | apply qa_ | apply qb_ | apply blk_alloc); exact BK203.out) hb); replace BK205 := Aside0.mk (qy_ (g := gb205) (o := .cells #[.int .i64 ((qj_ l0_0 a1).f0), .int .i64 ((qj_ l0_0 a1).f1), .int .i64 ((qj_ l0_0 a1).f2), .int .i64 ((qj_ l0_0 a1).f3)] 47 (0, 0)) (by (with_reducible repeat first | apply qa_ | apply qb_ | apply blk_alloc); refine qA_ (cs := #[.int .i64 ((qj_ l0_0 a1).f0), .int .i64 ((qj_ l0_0 a1).f1), .int .i64 ((qj_ l0_0 a1).f2), .int .i64 0]) ?_ 3 _ rfl; (with_reducible repeat first | apply qa_ | apply qb_ | apply blk_alloc); refine qA_ (cs := #[.int .i64 ((qj_ l0_0 a1).f0), .int .i64 ((qj_ l0_0 a1).f1), .int .i64 0, .int .i64 0]) ?_ 2 _ rfl; (with_reducible repeat first | apply qa_ | apply qb_ | apply blk_alloc); refine qA_ (cs := #[.int .i64 ((qj_ l0_0 a1).f0), .int .i64 0, .int .i64 0, .int .i64 0]) ?_ 1 _ rfl; (with_reducible repeat first | apply qa_ | apply qb_ | apply blk_alloc); refine qA_ (cs := #[.int .i64 0, .int .i64 0, .int .i64 0, .int .i64 0]) ?_ 0 _ rfl; (with_reducible repeat first | apply qa_ | apply qb_ | apply blk_alloc); exact BK205.out) hb); replace HB := Aside0.mk (qq_ (by repeat (first | (with_reducible first | exact HB.out | apply qh_ | apply qc_ | apply qf_ | refine qk_ ?_ (by assumption)) | exact HB.out)) hb); (try clear hb); have hcz81_0 := qg_ BK205 0 (.int .i64 ((qj_ l0_0 a1).f0)) rfl; have hcz81_1 := qg_ BK205 1 (.int .i64 ((qj_ l0_0 a1).f1)) rfl; have hcz81_2 := qg_ BK205 2 (.int .i64 ((qj_ l0_0 a1).f2)) rfl; have hcz81_3 := qg_ BK205 3 (.int .i64 ((qj_ l0_0 a1).f3)) rfl; have hfz81_0 := qd_ BK205 0; have hfz81_1 := qd_ BK205 1; have hfz81_2 := qd_ BK205 2; have hfz81_3 := qd_ BK205 3; have hcz82_0 := qg_ BK202 0 (.slice (some ad204) l0_0.length c0_0) rfl; have hfz82_0 := qd_ BK202 0; have hcz83_0 := qg_ BK203 0 (.int .i64 a2_0) rfl; have hcz83_1 := qg_ BK203 1 (.bool a2_1) rfl; have hcz83_2 := qg_ BK203 2 (.bool a2_2) rfl; have hcz83_3 := qg_ BK203 3 (.int .i64 a2_3) rfl; have hfz83_0 := qd_ BK203 0; have hfz83_1 := qd_ BK203 1; have hfz83_2 := qd_ BK203 2; have hfz83_3 := qd_ BK203 3) | ((with_reducible refine qs_ (f := 17) rfl ?_); refine goesL_ (some 65) rfl rfl Tryd.func17 (by kernel_rfl) rfl #[.agg #[.slice (some ad204) l0_0.length c0_0], .int .i64 ((qj_ l0_0 a1).f3), .agg #[.int .i64 a2_0, .bool a2_1, .bool a2_2, .int .i64 a2_3]] rfl (by (try simp only [List.map_toArray]); first | done | rfl) ?_; (with_reducible refine (ih k (by omega) _ _ l0_0 ((qj_ l0_0 a1).f3) a2_0 a2_1 a2_2 a2_3 t207 _ ?side1 ?side2 A67.out).mono ?_); (case side1 => repeat (first | exact (Kd.C_below HR0_0.out HB.out) | (with_reducible refine Kd.C_alloc ?_ _) | (with_reducible refine Kd.C_drewN ?_ _) | (with_reducible refine Kd.C_drew ?_))); (case side2 => exact HC0_0.out); rintro e w84 ⟨rfl, hb⟩; refine ⟨_, rfl, ?_⟩; replace BK202 := Aside0.mk (ql_ BK202 (by (with_reducible repeat first | apply qa_ | apply qb_ | apply blk_alloc); exact BK202.out) hb); replace BK203 := Aside0.mk (ql_ BK203 (by (with_reducible repeat first | apply qa_ | apply qb_ | apply blk_alloc); exact BK203.out) hb); replace BK205 := Aside0.mk (ql_ BK205 (by (with_reducible repeat first | apply qa_ | apply qb_ | apply blk_alloc); exact BK205.out) hb); replace HB := Aside0.mk (qq_ (by repeat (first | (with_reducible first | exact HB.out | apply qh_ | apply qc_ | apply qf_ | refine qk_ ?_ (by assumption)) | exact HB.out)) hb); (try clear hb); have hcz85_0 := qg_ BK205 0 (.int .i64 ((qj_ l0_0 a1).f0)) rfl; have hcz85_1 := qg_ BK205 1 (.int .i64 ((qj_ l0_0 a1).f1)) rfl; have hcz85_2 := qg_ BK205 2 (.int .i64 ((qj_ l0_0 a1).f2)) rfl; have hcz85_3 := qg_ BK205 3 (.int .i64 ((qj_ l0_0 a1).f3)) rfl; have hfz85_0 := qd_ BK205 0; have hfz85_1 := qd_ BK205 1; have hfz85_2 := qd_ BK205 2; have hfz85_3 := qd_ BK205 3))
          go_ret
          exact ⟨by first | rfl | (simp [*] <;> rfl), by repeat (first | (with_reducible first | exact HB.out | apply qh_ | apply qc_ | apply qf_ | refine qk_ ?_ (by assumption)) | exact HB.out)⟩
         ·replace c69 := Bool.eq_false_iff.mpr c69
          subst c69
          have H1 : (some false) = some r := by rw [if_neg (show ¬ (false = true) by decide)] at H; exact H
          clear H
          have H := H1
          clear H1
          obtain rfl := Option.some.inj H
          go_wp2_with (first | ((with_reducible refine qs_ (f := 17) rfl ?_); refine goesL_ (some 55) rfl rfl Tryd.func17 (by kernel_rfl) rfl #[.agg #[.slice (some ad204) l0_0.length c0_0], .int .i64 ((qj_ l0_0 a1).f2), .agg #[.int .i64 a2_0, .bool a2_1, .bool a2_2, .int .i64 a2_3]] rfl (by (try simp only [List.map_toArray]); first | done | rfl) ?_; (with_reducible refine (ih k (by omega) _ _ l0_0 ((qj_ l0_0 a1).f2) a2_0 a2_1 a2_2 a2_3 false _ ?side1 ?side2 A53.out).mono ?_); (case side1 => exact Kd.C_below HR0_0.out (by repeat (first | (with_reducible first | exact HB.out | apply qh_ | apply qc_ | apply qf_ | refine qk_ ?_ (by assumption)) | exact HB.out))); (case side2 => exact HC0_0.out); rintro e w96 ⟨rfl, hb⟩; refine ⟨_, rfl, ?_⟩; replace BK202 := Aside0.mk (ql_ BK202 (by (with_reducible repeat first | apply qa_ | apply qb_ | apply blk_alloc); refine qn_ ?_ NB202_205.out _; (with_reducible repeat first | apply qa_ | apply qb_ | apply blk_alloc); refine qn_ ?_ NB202_205.out _; (with_reducible repeat first | apply qa_ | apply qb_ | apply blk_alloc); refine qn_ ?_ NB202_205.out _; (with_reducible repeat first | apply qa_ | apply qb_ | apply blk_alloc); refine qn_ ?_ NB202_205.out _; (with_reducible repeat first | apply qa_ | apply qb_ | apply blk_alloc); exact BK202.out) hb); replace BK203 := Aside0.mk (ql_ BK203 (by (with_reducible repeat first | apply qa_ | apply qb_ | apply blk_alloc); refine qn_ ?_ NB203_205.out _; (with_reducible repeat first | apply qa_ | apply qb_ | apply blk_alloc); refine qn_ ?_ NB203_205.out _; (with_reducible repeat first | apply qa_ | apply qb_ | apply blk_alloc); refine qn_ ?_ NB203_205.out _; (with_reducible repeat first | apply qa_ | apply qb_ | apply blk_alloc); refine qn_ ?_ NB203_205.out _; (with_reducible repeat first | apply qa_ | apply qb_ | apply blk_alloc); exact BK203.out) hb); replace BK205 := Aside0.mk (qy_ (g := gb205) (o := .cells #[.int .i64 ((qj_ l0_0 a1).f0), .int .i64 ((qj_ l0_0 a1).f1), .int .i64 ((qj_ l0_0 a1).f2), .int .i64 ((qj_ l0_0 a1).f3)] 47 (0, 0)) (by (with_reducible repeat first | apply qa_ | apply qb_ | apply blk_alloc); refine qA_ (cs := #[.int .i64 ((qj_ l0_0 a1).f0), .int .i64 ((qj_ l0_0 a1).f1), .int .i64 ((qj_ l0_0 a1).f2), .int .i64 0]) ?_ 3 _ rfl; (with_reducible repeat first | apply qa_ | apply qb_ | apply blk_alloc); refine qA_ (cs := #[.int .i64 ((qj_ l0_0 a1).f0), .int .i64 ((qj_ l0_0 a1).f1), .int .i64 0, .int .i64 0]) ?_ 2 _ rfl; (with_reducible repeat first | apply qa_ | apply qb_ | apply blk_alloc); refine qA_ (cs := #[.int .i64 ((qj_ l0_0 a1).f0), .int .i64 0, .int .i64 0, .int .i64 0]) ?_ 1 _ rfl; (with_reducible repeat first | apply qa_ | apply qb_ | apply blk_alloc); refine qA_ (cs := #[.int .i64 0, .int .i64 0, .int .i64 0, .int .i64 0]) ?_ 0 _ rfl; (with_reducible repeat first | apply qa_ | apply qb_ | apply blk_alloc); exact BK205.out) hb); replace HB := Aside0.mk (qq_ (by repeat (first | (with_reducible first | exact HB.out | apply qh_ | apply qc_ | apply qf_ | refine qk_ ?_ (by assumption)) | exact HB.out)) hb); (try clear hb); have hcz97_0 := qg_ BK205 0 (.int .i64 ((qj_ l0_0 a1).f0)) rfl; have hcz97_1 := qg_ BK205 1 (.int .i64 ((qj_ l0_0 a1).f1)) rfl; have hcz97_2 := qg_ BK205 2 (.int .i64 ((qj_ l0_0 a1).f2)) rfl; have hcz97_3 := qg_ BK205 3 (.int .i64 ((qj_ l0_0 a1).f3)) rfl; have hfz97_0 := qd_ BK205 0; have hfz97_1 := qd_ BK205 1; have hfz97_2 := qd_ BK205 2; have hfz97_3 := qd_ BK205 3; have hcz98_0 := qg_ BK202 0 (.slice (some ad204) l0_0.length c0_0) rfl; have hfz98_0 := qd_ BK202 0; have hcz99_0 := qg_ BK203 0 (.int .i64 a2_0) rfl; have hcz99_1 := qg_ BK203 1 (.bool a2_1) rfl; have hcz99_2 := qg_ BK203 2 (.bool a2_2) rfl; have hcz99_3 := qg_ BK203 3 (.int .i64 a2_3) rfl; have hfz99_0 := qd_ BK203 0; have hfz99_1 := qd_ BK203 1; have hfz99_2 := qd_ BK203 2; have hfz99_3 := qd_ BK203 3) | ((with_reducible refine qs_ (f := 17) rfl ?_); refine goesL_ (some 65) rfl rfl Tryd.func17 (by kernel_rfl) rfl #[.agg #[.slice (some ad204) l0_0.length c0_0], .int .i64 ((qj_ l0_0 a1).f3), .agg #[.int .i64 a2_0, .bool a2_1, .bool a2_2, .int .i64 a2_3]] rfl (by (try simp only [List.map_toArray]); first | done | rfl) ?_; (with_reducible refine (ih k (by omega) _ _ l0_0 ((qj_ l0_0 a1).f3) a2_0 a2_1 a2_2 a2_3 t207 _ ?side1 ?side2 A67.out).mono ?_); (case side1 => repeat (first | exact (Kd.C_below HR0_0.out HB.out) | (with_reducible refine Kd.C_alloc ?_ _) | (with_reducible refine Kd.C_drewN ?_ _) | (with_reducible refine Kd.C_drew ?_))); (case side2 => exact HC0_0.out); rintro e w100 ⟨rfl, hb⟩; refine ⟨_, rfl, ?_⟩; replace BK202 := Aside0.mk (ql_ BK202 (by (with_reducible repeat first | apply qa_ | apply qb_ | apply blk_alloc); exact BK202.out) hb); replace BK203 := Aside0.mk (ql_ BK203 (by (with_reducible repeat first | apply qa_ | apply qb_ | apply blk_alloc); exact BK203.out) hb); replace BK205 := Aside0.mk (ql_ BK205 (by (with_reducible repeat first | apply qa_ | apply qb_ | apply blk_alloc); exact BK205.out) hb); replace HB := Aside0.mk (qq_ (by repeat (first | (with_reducible first | exact HB.out | apply qh_ | apply qc_ | apply qf_ | refine qk_ ?_ (by assumption)) | exact HB.out)) hb); (try clear hb); have hcz101_0 := qg_ BK205 0 (.int .i64 ((qj_ l0_0 a1).f0)) rfl; have hcz101_1 := qg_ BK205 1 (.int .i64 ((qj_ l0_0 a1).f1)) rfl; have hcz101_2 := qg_ BK205 2 (.int .i64 ((qj_ l0_0 a1).f2)) rfl; have hcz101_3 := qg_ BK205 3 (.int .i64 ((qj_ l0_0 a1).f3)) rfl; have hfz101_0 := qd_ BK205 0; have hfz101_1 := qd_ BK205 1; have hfz101_2 := qd_ BK205 2; have hfz101_3 := qd_ BK205 3))
          go_ret
          exact ⟨by first | rfl | (simp [*] <;> rfl), by repeat (first | (with_reducible first | exact HB.out | apply qh_ | apply qc_ | apply qf_ | refine qk_ ?_ (by assumption)) | exact HB.out)⟩
        ·rw [if_neg c68] at H
         have c68b0 : (((qj_ l0_0 a1).f0) == 6) = false := beq_eq_false_iff_ne.mpr c68
         have c68b1 : (((qj_ l0_0 a1).f0) != 6) = true := bne_iff_ne.mpr c68
         by_cases c102 : t206 = true
         ·subst c102
          have H1 : (some true) = some r := by rw [if_pos rfl] at H; exact H
          clear H
          have H := H1
          clear H1
          obtain rfl := Option.some.inj H
          go_wp2_with (first | ((with_reducible refine qs_ (f := 17) rfl ?_); refine goesL_ (some 55) rfl rfl Tryd.func17 (by kernel_rfl) rfl #[.agg #[.slice (some ad204) l0_0.length c0_0], .int .i64 ((qj_ l0_0 a1).f2), .agg #[.int .i64 a2_0, .bool a2_1, .bool a2_2, .int .i64 a2_3]] rfl (by (try simp only [List.map_toArray]); first | done | rfl) ?_; (with_reducible refine (ih k (by omega) _ _ l0_0 ((qj_ l0_0 a1).f2) a2_0 a2_1 a2_2 a2_3 true _ ?side1 ?side2 A53.out).mono ?_); (case side1 => exact Kd.C_below HR0_0.out (by repeat (first | (with_reducible first | exact HB.out | apply qh_ | apply qc_ | apply qf_ | refine qk_ ?_ (by assumption)) | exact HB.out))); (case side2 => exact HC0_0.out); rintro e w113 ⟨rfl, hb⟩; refine ⟨_, rfl, ?_⟩; replace BK202 := Aside0.mk (ql_ BK202 (by (with_reducible repeat first | apply qa_ | apply qb_ | apply blk_alloc); refine qn_ ?_ NB202_205.out _; (with_reducible repeat first | apply qa_ | apply qb_ | apply blk_alloc); refine qn_ ?_ NB202_205.out _; (with_reducible repeat first | apply qa_ | apply qb_ | apply blk_alloc); refine qn_ ?_ NB202_205.out _; (with_reducible repeat first | apply qa_ | apply qb_ | apply blk_alloc); refine qn_ ?_ NB202_205.out _; (with_reducible repeat first | apply qa_ | apply qb_ | apply blk_alloc); exact BK202.out) hb); replace BK203 := Aside0.mk (ql_ BK203 (by (with_reducible repeat first | apply qa_ | apply qb_ | apply blk_alloc); refine qn_ ?_ NB203_205.out _; (with_reducible repeat first | apply qa_ | apply qb_ | apply blk_alloc); refine qn_ ?_ NB203_205.out _; (with_reducible repeat first | apply qa_ | apply qb_ | apply blk_alloc); refine qn_ ?_ NB203_205.out _; (with_reducible repeat first | apply qa_ | apply qb_ | apply blk_alloc); refine qn_ ?_ NB203_205.out _; (with_reducible repeat first | apply qa_ | apply qb_ | apply blk_alloc); exact BK203.out) hb); replace BK205 := Aside0.mk (qy_ (g := gb205) (o := .cells #[.int .i64 ((qj_ l0_0 a1).f0), .int .i64 ((qj_ l0_0 a1).f1), .int .i64 ((qj_ l0_0 a1).f2), .int .i64 ((qj_ l0_0 a1).f3)] 47 (0, 0)) (by (with_reducible repeat first | apply qa_ | apply qb_ | apply blk_alloc); refine qA_ (cs := #[.int .i64 ((qj_ l0_0 a1).f0), .int .i64 ((qj_ l0_0 a1).f1), .int .i64 ((qj_ l0_0 a1).f2), .int .i64 0]) ?_ 3 _ rfl; (with_reducible repeat first | apply qa_ | apply qb_ | apply blk_alloc); refine qA_ (cs := #[.int .i64 ((qj_ l0_0 a1).f0), .int .i64 ((qj_ l0_0 a1).f1), .int .i64 0, .int .i64 0]) ?_ 2 _ rfl; (with_reducible repeat first | apply qa_ | apply qb_ | apply blk_alloc); refine qA_ (cs := #[.int .i64 ((qj_ l0_0 a1).f0), .int .i64 0, .int .i64 0, .int .i64 0]) ?_ 1 _ rfl; (with_reducible repeat first | apply qa_ | apply qb_ | apply blk_alloc); refine qA_ (cs := #[.int .i64 0, .int .i64 0, .int .i64 0, .int .i64 0]) ?_ 0 _ rfl; (with_reducible repeat first | apply qa_ | apply qb_ | apply blk_alloc); exact BK205.out) hb); replace HB := Aside0.mk (qq_ (by repeat (first | (with_reducible first | exact HB.out | apply qh_ | apply qc_ | apply qf_ | refine qk_ ?_ (by assumption)) | exact HB.out)) hb); (try clear hb); have hcz114_0 := qg_ BK205 0 (.int .i64 ((qj_ l0_0 a1).f0)) rfl; have hcz114_1 := qg_ BK205 1 (.int .i64 ((qj_ l0_0 a1).f1)) rfl; have hcz114_2 := qg_ BK205 2 (.int .i64 ((qj_ l0_0 a1).f2)) rfl; have hcz114_3 := qg_ BK205 3 (.int .i64 ((qj_ l0_0 a1).f3)) rfl; have hfz114_0 := qd_ BK205 0; have hfz114_1 := qd_ BK205 1; have hfz114_2 := qd_ BK205 2; have hfz114_3 := qd_ BK205 3; have hcz115_0 := qg_ BK202 0 (.slice (some ad204) l0_0.length c0_0) rfl; have hfz115_0 := qd_ BK202 0; have hcz116_0 := qg_ BK203 0 (.int .i64 a2_0) rfl; have hcz116_1 := qg_ BK203 1 (.bool a2_1) rfl; have hcz116_2 := qg_ BK203 2 (.bool a2_2) rfl; have hcz116_3 := qg_ BK203 3 (.int .i64 a2_3) rfl; have hfz116_0 := qd_ BK203 0; have hfz116_1 := qd_ BK203 1; have hfz116_2 := qd_ BK203 2; have hfz116_3 := qd_ BK203 3) | ((with_reducible refine qs_ (f := 17) rfl ?_); refine goesL_ (some 65) rfl rfl Tryd.func17 (by kernel_rfl) rfl #[.agg #[.slice (some ad204) l0_0.length c0_0], .int .i64 ((qj_ l0_0 a1).f3), .agg #[.int .i64 a2_0, .bool a2_1, .bool a2_2, .int .i64 a2_3]] rfl (by (try simp only [List.map_toArray]); first | done | rfl) ?_; (with_reducible refine (ih k (by omega) _ _ l0_0 ((qj_ l0_0 a1).f3) a2_0 a2_1 a2_2 a2_3 t207 _ ?side1 ?side2 A67.out).mono ?_); (case side1 => repeat (first | exact (Kd.C_below HR0_0.out HB.out) | (with_reducible refine Kd.C_alloc ?_ _) | (with_reducible refine Kd.C_drewN ?_ _) | (with_reducible refine Kd.C_drew ?_))); (case side2 => exact HC0_0.out); rintro e w117 ⟨rfl, hb⟩; refine ⟨_, rfl, ?_⟩; replace BK202 := Aside0.mk (ql_ BK202 (by (with_reducible repeat first | apply qa_ | apply qb_ | apply blk_alloc); exact BK202.out) hb); replace BK203 := Aside0.mk (ql_ BK203 (by (with_reducible repeat first | apply qa_ | apply qb_ | apply blk_alloc); exact BK203.out) hb); replace BK205 := Aside0.mk (ql_ BK205 (by (with_reducible repeat first | apply qa_ | apply qb_ | apply blk_alloc); exact BK205.out) hb); replace HB := Aside0.mk (qq_ (by repeat (first | (with_reducible first | exact HB.out | apply qh_ | apply qc_ | apply qf_ | refine qk_ ?_ (by assumption)) | exact HB.out)) hb); (try clear hb); have hcz118_0 := qg_ BK205 0 (.int .i64 ((qj_ l0_0 a1).f0)) rfl; have hcz118_1 := qg_ BK205 1 (.int .i64 ((qj_ l0_0 a1).f1)) rfl; have hcz118_2 := qg_ BK205 2 (.int .i64 ((qj_ l0_0 a1).f2)) rfl; have hcz118_3 := qg_ BK205 3 (.int .i64 ((qj_ l0_0 a1).f3)) rfl; have hfz118_0 := qd_ BK205 0; have hfz118_1 := qd_ BK205 1; have hfz118_2 := qd_ BK205 2; have hfz118_3 := qd_ BK205 3))
          go_ret
          exact ⟨by first | rfl | (simp [*] <;> rfl), by repeat (first | (with_reducible first | exact HB.out | apply qh_ | apply qc_ | apply qf_ | refine qk_ ?_ (by assumption)) | exact HB.out)⟩
         ·replace c102 := Bool.eq_false_iff.mpr c102
          subst c102
          have H1 : (some t207) = some r := by rw [if_neg (show ¬ (false = true) by decide)] at H; exact H
          clear H
          have H := H1
          clear H1
          obtain rfl := Option.some.inj H
          go_wp2_with (first | ((with_reducible refine qs_ (f := 17) rfl ?_); refine goesL_ (some 55) rfl rfl Tryd.func17 (by kernel_rfl) rfl #[.agg #[.slice (some ad204) l0_0.length c0_0], .int .i64 ((qj_ l0_0 a1).f2), .agg #[.int .i64 a2_0, .bool a2_1, .bool a2_2, .int .i64 a2_3]] rfl (by (try simp only [List.map_toArray]); first | done | rfl) ?_; (with_reducible refine (ih k (by omega) _ _ l0_0 ((qj_ l0_0 a1).f2) a2_0 a2_1 a2_2 a2_3 false _ ?side1 ?side2 A53.out).mono ?_); (case side1 => exact Kd.C_below HR0_0.out (by repeat (first | (with_reducible first | exact HB.out | apply qh_ | apply qc_ | apply qf_ | refine qk_ ?_ (by assumption)) | exact HB.out))); (case side2 => exact HC0_0.out); rintro e w129 ⟨rfl, hb⟩; refine ⟨_, rfl, ?_⟩; replace BK202 := Aside0.mk (ql_ BK202 (by (with_reducible repeat first | apply qa_ | apply qb_ | apply blk_alloc); refine qn_ ?_ NB202_205.out _; (with_reducible repeat first | apply qa_ | apply qb_ | apply blk_alloc); refine qn_ ?_ NB202_205.out _; (with_reducible repeat first | apply qa_ | apply qb_ | apply blk_alloc); refine qn_ ?_ NB202_205.out _; (with_reducible repeat first | apply qa_ | apply qb_ | apply blk_alloc); refine qn_ ?_ NB202_205.out _; (with_reducible repeat first | apply qa_ | apply qb_ | apply blk_alloc); exact BK202.out) hb); replace BK203 := Aside0.mk (ql_ BK203 (by (with_reducible repeat first | apply qa_ | apply qb_ | apply blk_alloc); refine qn_ ?_ NB203_205.out _; (with_reducible repeat first | apply qa_ | apply qb_ | apply blk_alloc); refine qn_ ?_ NB203_205.out _; (with_reducible repeat first | apply qa_ | apply qb_ | apply blk_alloc); refine qn_ ?_ NB203_205.out _; (with_reducible repeat first | apply qa_ | apply qb_ | apply blk_alloc); refine qn_ ?_ NB203_205.out _; (with_reducible repeat first | apply qa_ | apply qb_ | apply blk_alloc); exact BK203.out) hb); replace BK205 := Aside0.mk (qy_ (g := gb205) (o := .cells #[.int .i64 ((qj_ l0_0 a1).f0), .int .i64 ((qj_ l0_0 a1).f1), .int .i64 ((qj_ l0_0 a1).f2), .int .i64 ((qj_ l0_0 a1).f3)] 47 (0, 0)) (by (with_reducible repeat first | apply qa_ | apply qb_ | apply blk_alloc); refine qA_ (cs := #[.int .i64 ((qj_ l0_0 a1).f0), .int .i64 ((qj_ l0_0 a1).f1), .int .i64 ((qj_ l0_0 a1).f2), .int .i64 0]) ?_ 3 _ rfl; (with_reducible repeat first | apply qa_ | apply qb_ | apply blk_alloc); refine qA_ (cs := #[.int .i64 ((qj_ l0_0 a1).f0), .int .i64 ((qj_ l0_0 a1).f1), .int .i64 0, .int .i64 0]) ?_ 2 _ rfl; (with_reducible repeat first | apply qa_ | apply qb_ | apply blk_alloc); refine qA_ (cs := #[.int .i64 ((qj_ l0_0 a1).f0), .int .i64 0, .int .i64 0, .int .i64 0]) ?_ 1 _ rfl; (with_reducible repeat first | apply qa_ | apply qb_ | apply blk_alloc); refine qA_ (cs := #[.int .i64 0, .int .i64 0, .int .i64 0, .int .i64 0]) ?_ 0 _ rfl; (with_reducible repeat first | apply qa_ | apply qb_ | apply blk_alloc); exact BK205.out) hb); replace HB := Aside0.mk (qq_ (by repeat (first | (with_reducible first | exact HB.out | apply qh_ | apply qc_ | apply qf_ | refine qk_ ?_ (by assumption)) | exact HB.out)) hb); (try clear hb); have hcz130_0 := qg_ BK205 0 (.int .i64 ((qj_ l0_0 a1).f0)) rfl; have hcz130_1 := qg_ BK205 1 (.int .i64 ((qj_ l0_0 a1).f1)) rfl; have hcz130_2 := qg_ BK205 2 (.int .i64 ((qj_ l0_0 a1).f2)) rfl; have hcz130_3 := qg_ BK205 3 (.int .i64 ((qj_ l0_0 a1).f3)) rfl; have hfz130_0 := qd_ BK205 0; have hfz130_1 := qd_ BK205 1; have hfz130_2 := qd_ BK205 2; have hfz130_3 := qd_ BK205 3; have hcz131_0 := qg_ BK202 0 (.slice (some ad204) l0_0.length c0_0) rfl; have hfz131_0 := qd_ BK202 0; have hcz132_0 := qg_ BK203 0 (.int .i64 a2_0) rfl; have hcz132_1 := qg_ BK203 1 (.bool a2_1) rfl; have hcz132_2 := qg_ BK203 2 (.bool a2_2) rfl; have hcz132_3 := qg_ BK203 3 (.int .i64 a2_3) rfl; have hfz132_0 := qd_ BK203 0; have hfz132_1 := qd_ BK203 1; have hfz132_2 := qd_ BK203 2; have hfz132_3 := qd_ BK203 3) | ((with_reducible refine qs_ (f := 17) rfl ?_); refine goesL_ (some 65) rfl rfl Tryd.func17 (by kernel_rfl) rfl #[.agg #[.slice (some ad204) l0_0.length c0_0], .int .i64 ((qj_ l0_0 a1).f3), .agg #[.int .i64 a2_0, .bool a2_1, .bool a2_2, .int .i64 a2_3]] rfl (by (try simp only [List.map_toArray]); first | done | rfl) ?_; (with_reducible refine (ih k (by omega) _ _ l0_0 ((qj_ l0_0 a1).f3) a2_0 a2_1 a2_2 a2_3 t207 _ ?side1 ?side2 A67.out).mono ?_); (case side1 => repeat (first | exact (Kd.C_below HR0_0.out HB.out) | (with_reducible refine Kd.C_alloc ?_ _) | (with_reducible refine Kd.C_drewN ?_ _) | (with_reducible refine Kd.C_drew ?_))); (case side2 => exact HC0_0.out); rintro e w133 ⟨rfl, hb⟩; refine ⟨_, rfl, ?_⟩; replace BK202 := Aside0.mk (ql_ BK202 (by (with_reducible repeat first | apply qa_ | apply qb_ | apply blk_alloc); exact BK202.out) hb); replace BK203 := Aside0.mk (ql_ BK203 (by (with_reducible repeat first | apply qa_ | apply qb_ | apply blk_alloc); exact BK203.out) hb); replace BK205 := Aside0.mk (ql_ BK205 (by (with_reducible repeat first | apply qa_ | apply qb_ | apply blk_alloc); exact BK205.out) hb); replace HB := Aside0.mk (qq_ (by repeat (first | (with_reducible first | exact HB.out | apply qh_ | apply qc_ | apply qf_ | refine qk_ ?_ (by assumption)) | exact HB.out)) hb); (try clear hb); have hcz134_0 := qg_ BK205 0 (.int .i64 ((qj_ l0_0 a1).f0)) rfl; have hcz134_1 := qg_ BK205 1 (.int .i64 ((qj_ l0_0 a1).f1)) rfl; have hcz134_2 := qg_ BK205 2 (.int .i64 ((qj_ l0_0 a1).f2)) rfl; have hcz134_3 := qg_ BK205 3 (.int .i64 ((qj_ l0_0 a1).f3)) rfl; have hfz134_0 := qd_ BK205 0; have hfz134_1 := qd_ BK205 1; have hfz134_2 := qd_ BK205 2; have hfz134_3 := qd_ BK205 3))
          go_ret
          exact ⟨by first | rfl | (simp [*] <;> rfl), by repeat (first | (with_reducible first | exact HB.out | apply qh_ | apply qc_ | apply qf_ | refine qk_ ?_ (by assumption)) | exact HB.out)⟩
  ·rw [if_neg c5] at H
   exact absurd H (by simp)
 ·rw [if_neg c4] at H
  exact absurd H (by simp)

end Go.Proofs.YtblkkhddefnkpaaDoor.PPo
