-- printed by drv.py (a program of this repo, over the kit's printer)
import Derived.Test.YtjpdcnaealdbjaaPThx0
import Derived.Test.YtjpdcnaealdbjaaPThx17
import Derived.Test.YtjpdcnaealdbjaaPThx18
namespace Go.Proofs.Ytjpdcnaealdbjaa.PTh
open Go.RowKit Go.Proofs.YtjpdcnaealdbjaaW.PrintWords Go.Proofs.YtjpdcnaealdbjaaW.PrintLast Go.Proofs.YtjpdcnaealdbjaaW.PrintMore
attribute [local go_sem] max2_int min2_int max_two min_two max_three min_three max_four min_four   -- for this text's walks alone
set_option linter.unusedVariables false
set_option linter.unusedSimpArgs false

/-! ### qw_: function 31 -/
def qw_.l0 : Nat → Int → List (S52) → Int → Int → Option (Int × Int)
 | 0, _, _, _, _ => none
 | k + 1, x3, x13, x14, x15 => if x15 < x14 then (if 0 ≤ x15 then (if x15 < (x13.length : Int) then ((qx_.f k ((rd_T52 x13 x15).f0) ((rd_T52 x13 x15).f1) ((rd_T52 x13 x15).f2) x3).bind fun t124 => (if t124 = 0 then ((textpatch_End.f ((rd_T52 x13 x15).f0) ((rd_T52 x13 x15).f1) ((rd_T52 x13 x15).f2)).bind fun t125 => (qw_.l0 k (wrap64 (t125 + 1)) x13 x14 (wrap64 (x15 + 1)))) else (some (t124, x15)))) else (none)) else (none)) else (some (0, 0))
def qw_.f (k : Nat) (l0_0 : List (S52)) : Option (Int × Int) := if (l0_0.length : Int) > 130 then (some (2, (-1))) else (qw_.l0 k 0 l0_0 (l0_0.length : Int) 0)
theorem qw_.mono_l : ∀ k, (∀ y0 y1 y2 y3, LeO (qw_.l0 k y0 y1 y2 y3) (qw_.l0 (k + 1) y0 y1 y2 y3))
 | 0 => fun _ _ _ _ r h => by simp [qw_.l0] at h
 | k + 1 => by
  have ih0 := qw_.mono_l k
  ·intro y0 y1 y2 y3
   unfold qw_.l0
   repeat' first
   | (with_reducible exact ih0 _ _ _ _)
   | (with_reducible exact qx_.mono _ _ _ _ _)
   | (with_reducible exact LeO.refl _)
   | (with_reducible exact LeO.none _)
   | (with_reducible refine LeO.ite ?_ ?_)
   | (with_reducible refine LeO.bind ?_ (fun _ => ?_))
   | exact ih0 _ _ _ _
   | exact qx_.mono _ _ _ _ _
   | exact LeO.none _
   | refine LeO.ite ?_ ?_
   | refine LeO.bind ?_ (fun _ => ?_)
theorem qw_.mono : ∀ a0 k, LeO (qw_.f k a0) (qw_.f (k + 1) a0) := by
 intro a0 k
 have ih0 := qw_.mono_l k
 unfold qw_.f
 repeat' first
   | (with_reducible exact ih0 _ _ _ _)
   | (with_reducible exact qx_.mono _ _ _ _ _)
   | (with_reducible exact LeO.refl _)
   | (with_reducible exact LeO.none _)
   | (with_reducible refine LeO.ite ?_ ?_)
   | (with_reducible refine LeO.bind ?_ (fun _ => ?_))
   | exact ih0 _ _ _ _
   | exact qx_.mono _ _ _ _ _
   | exact LeO.none _
   | refine LeO.ite ?_ ?_
   | refine LeO.bind ?_ (fun _ => ?_)
set_option maxHeartbeats 8000000 in
set_option maxRecDepth 100000 in
theorem qw_.calls (k : Nat) (A0_0 : Option Addr) (c0_0 : Nat) (l0_0 : List (S52)) (r1 : Int) (r2 : Int) (w : World) (hr0_0 : Kd.C k52 w A0_0 l0_0.length l0_0) (hc0_0 : l0_0.length ≤ c0_0) (h : qw_.f k l0_0 = some (r1, r2)) :
  Calls Try.prog 31 #[.agg #[.slice A0_0 l0_0.length c0_0]] w fun e w' => e = .returned (.agg #[.int .i64 r1, .int .i64 r2]) ∧ Below w.heap.size w w' := by
 have hu41 := Try.underlying41
 have hu26 := Try.underlying26
 have hu52 := Try.underlying52
 have HR0_0 := qi_.mk hr0_0
 have HC0_0 := qi_.mk hc0_0
 clear hr0_0 hc0_0
 have HB := qi_.mk (Below.refl w.heap.size w)
 have H : (if (l0_0.length : Int) > 130 then (some (2, (-1))) else (qw_.l0 k 0 l0_0 (l0_0.length : Int) 0)) = some (r1, r2) := h
 clear h
 by_cases c2 : (l0_0.length : Int) > 130
 ·rw [if_pos c2] at H
  have c2b0 : decide (130 < (l0_0.length : Int)) = true := decide_eq_true c2
  have c2b1 : decide (130 < l0_0.length) = true := decide_eq_true (by omega)
  clear c2
  simp only [Option.some.injEq, Prod.mk.injEq] at H
  obtain ⟨rfl, rfl⟩ := H
  go_enter Try.func31, Try.ntmps31
  go_wp2_with (first | ((with_reducible refine gate_dst (N := 1) rfl ?_); refine q1_ ?hg (N := 1) ?hd (cs := #[.slice A0_0 l0_0.length c0_0]) (t := 41) ?hr ?_; (case hd => rfl); (case hg => rfl); (case hr => first | (go_simp; done) | (go_simp; rfl)); intro gb120 hg w3 hbox hb; have n0_ := qi_.mk (qr_ (by repeat (first | (with_reducible first | exact HB.out | apply qe_ | apply qa_ | apply qc_) | exact HB.out)) hb); have n1_ := qi_.mk (hbox); have n2_ := qi_.mk ((by rw [hg]; exact (qq_ (by repeat (first | (with_reducible first | exact HB.out | apply qe_ | apply qa_ | apply qc_) | exact HB.out))) : w.heap.size ≤ gb120)); have n3_ := qi_.mk ((by rw [hg]; exact (qq_ (by repeat (first | (with_reducible first | exact HB.out | apply qe_ | apply qa_ | apply qc_) | exact HB.out))) : w.heap.size ≤ gb120)); clear HB; have HB := n0_; have BK120 := n1_; have GW120 := n2_; have GE120 := n3_; clear n0_ n1_ n2_ n3_; clear hb hbox hg) | ((with_reducible refine gate_dst (N := 2) rfl ?_); refine q1_ ?hg (N := 2) ?hd (cs := #[.int .i64 0, .int .i64 0]) (t := 26) ?hr ?_; (case hd => rfl); (case hg => rfl); (case hr => first | (go_simp; done) | (go_simp; rfl)); intro gb121 hg w4 hbox hb; have n0_ := qi_.mk (qn_ (g := gb120) (o := .cells #[.slice A0_0 l0_0.length c0_0] 41 (0, 0)) (by (with_reducible repeat (first | refine qd_ ?_ _ | refine qh_ ?_)); exact BK120.out) hb); have n1_ := qi_.mk (qr_ (by repeat (first | (with_reducible first | exact HB.out | apply qe_ | apply qa_ | apply qc_ | refine qf_ ?_ GE120.out) | exact HB.out)) hb); have n2_ := qi_.mk (hbox); have n3_ := qi_.mk ((by rw [hg]; exact (qq_ (by repeat (first | (with_reducible first | exact HB.out | apply qe_ | apply qa_ | apply qc_ | refine qf_ ?_ GE120.out) | exact HB.out))) : w.heap.size ≤ gb121)); have n4_ := qi_.mk ((by rw [hg]; exact (qq_ (by repeat (first | (with_reducible first | exact HB.out | apply qe_ | apply qa_ | apply qc_ | refine qf_ ?_ GE120.out) | exact HB.out))) : w.heap.size ≤ gb121)); have n5_ := qi_.mk ((by rw [hg]; exact Nat.ne_of_lt (blk_lt (g := gb120) (o := .cells #[.slice A0_0 l0_0.length c0_0] 41 (0, 0)) (by (with_reducible repeat (first | refine qd_ ?_ _ | refine qh_ ?_)); exact BK120.out)) : gb120 ≠ gb121)); have n6_ := qi_.mk ((by rw [hg]; exact Nat.ne_of_gt (blk_lt (g := gb120) (o := .cells #[.slice A0_0 l0_0.length c0_0] 41 (0, 0)) (by (with_reducible repeat (first | refine qd_ ?_ _ | refine qh_ ?_)); exact BK120.out)) : gb121 ≠ gb120)); clear BK120; clear HB; have BK120 := n0_; have HB := n1_; have BK121 := n2_; have GW121 := n3_; have GE121 := n4_; have NB120_121 := n5_; have NB121_120 := n6_; clear n0_ n1_ n2_ n3_ n4_ n5_ n6_; clear hb hbox hg; have hnb5 := NB120_121.out; have hnc5 := NB121_120.out; have hcz6_0 : w4.cell? ⟨gb120, 0, none⟩ = some (.slice A0_0 l0_0.length c0_0) := (qb_ BK120.out 0).trans rfl; have hfz6_0 := qg_ BK120.out 0; have hcz7_0 : w4.cell? ⟨gb121, 0, none⟩ = some (.int .i64 0) := (qb_ BK121.out 0).trans rfl; have hcz7_1 : w4.cell? ⟨gb121, 1, none⟩ = some (.int .i64 0) := (qb_ BK121.out 1).trans rfl; have hfz7_0 := qg_ BK121.out 0; have hfz7_1 := qg_ BK121.out 1))
  refine bodyPost_ret (results_cell_row rfl _ _ gb121 26 #[.int .i64 2, .int .i64 (-1)] (0, 0) _ rfl (by (with_reducible repeat (first | refine qd_ ?_ _ | refine qh_ ?_)); refine q6_ (cs := #[.int .i64 2, .int .i64 0]) ?_ 1 _ rfl; (with_reducible repeat (first | refine qd_ ?_ _ | refine qh_ ?_)); refine q6_ (cs := #[.int .i64 0, .int .i64 0]) ?_ 0 _ rfl; (with_reducible repeat (first | refine qd_ ?_ _ | refine qh_ ?_)); exact BK121.out) Try.underlying26 rfl (by kernel_rfl)) rfl ?_
  exact ⟨by first | rfl | (simp [*] <;> rfl), by repeat (first | (with_reducible first | exact HB.out | apply qe_ | apply qa_ | apply qc_ | refine qf_ ?_ GE120.out | refine qf_ ?_ GE121.out) | exact HB.out)⟩
 ·rw [if_neg c2] at H
  have c2b0 : decide (130 < (l0_0.length : Int)) = false := decide_eq_false c2
  have c2b1 : decide (130 < l0_0.length) = false := decide_eq_false (by omega)
  clear c2
  have H' := qi_.mk H
  clear H
  go_enter Try.func31, Try.ntmps31
  go_wp2_with (first | ((with_reducible refine gate_dst (N := 1) rfl ?_); refine q1_ ?hg (N := 1) ?hd (cs := #[.slice A0_0 l0_0.length c0_0]) (t := 41) ?hr ?_; (case hd => rfl); (case hg => rfl); (case hr => first | (go_simp; done) | (go_simp; rfl)); intro gb120 hg w8 hbox hb; have n0_ := qi_.mk (qr_ (by repeat (first | (with_reducible first | exact HB.out | apply qe_ | apply qa_ | apply qc_) | exact HB.out)) hb); have n1_ := qi_.mk (hbox); have n2_ := qi_.mk ((by rw [hg]; exact (qq_ (by repeat (first | (with_reducible first | exact HB.out | apply qe_ | apply qa_ | apply qc_) | exact HB.out))) : w.heap.size ≤ gb120)); have n3_ := qi_.mk ((by rw [hg]; exact (qq_ (by repeat (first | (with_reducible first | exact HB.out | apply qe_ | apply qa_ | apply qc_) | exact HB.out))) : w.heap.size ≤ gb120)); clear HB; have HB := n0_; have BK120 := n1_; have GW120 := n2_; have GE120 := n3_; clear n0_ n1_ n2_ n3_; clear hb hbox hg) | ((with_reducible refine gate_dst (N := 2) rfl ?_); refine q1_ ?hg (N := 2) ?hd (cs := #[.int .i64 0, .int .i64 0]) (t := 26) ?hr ?_; (case hd => rfl); (case hg => rfl); (case hr => first | (go_simp; done) | (go_simp; rfl)); intro gb121 hg w9 hbox hb; have n0_ := qi_.mk (qn_ (g := gb120) (o := .cells #[.slice A0_0 l0_0.length c0_0] 41 (0, 0)) (by (with_reducible repeat (first | refine qd_ ?_ _ | refine qh_ ?_)); exact BK120.out) hb); have n1_ := qi_.mk (qr_ (by repeat (first | (with_reducible first | exact HB.out | apply qe_ | apply qa_ | apply qc_ | refine qf_ ?_ GE120.out) | exact HB.out)) hb); have n2_ := qi_.mk (hbox); have n3_ := qi_.mk ((by rw [hg]; exact (qq_ (by repeat (first | (with_reducible first | exact HB.out | apply qe_ | apply qa_ | apply qc_ | refine qf_ ?_ GE120.out) | exact HB.out))) : w.heap.size ≤ gb121)); have n4_ := qi_.mk ((by rw [hg]; exact (qq_ (by repeat (first | (with_reducible first | exact HB.out | apply qe_ | apply qa_ | apply qc_ | refine qf_ ?_ GE120.out) | exact HB.out))) : w.heap.size ≤ gb121)); have n5_ := qi_.mk ((by rw [hg]; exact Nat.ne_of_lt (blk_lt (g := gb120) (o := .cells #[.slice A0_0 l0_0.length c0_0] 41 (0, 0)) (by (with_reducible repeat (first | refine qd_ ?_ _ | refine qh_ ?_)); exact BK120.out)) : gb120 ≠ gb121)); have n6_ := qi_.mk ((by rw [hg]; exact Nat.ne_of_gt (blk_lt (g := gb120) (o := .cells #[.slice A0_0 l0_0.length c0_0] 41 (0, 0)) (by (with_reducible repeat (first | refine qd_ ?_ _ | refine qh_ ?_)); exact BK120.out)) : gb121 ≠ gb120)); clear BK120; clear HB; have BK120 := n0_; have HB := n1_; have BK121 := n2_; have GW121 := n3_; have GE121 := n4_; have NB120_121 := n5_; have NB121_120 := n6_; clear n0_ n1_ n2_ n3_ n4_ n5_ n6_; clear hb hbox hg; have hnb10 := NB120_121.out; have hnc10 := NB121_120.out; have hcz11_0 : w9.cell? ⟨gb120, 0, none⟩ = some (.slice A0_0 l0_0.length c0_0) := (qb_ BK120.out 0).trans rfl; have hfz11_0 := qg_ BK120.out 0))
  go_loopg [3, 15] k (fun kq v3 v15 w' => ∃ (x3_1 : Int) (x15_1 : Int) (x122000_1 : Int) (x122001_1 : Int), v3 = .int .i64 x3_1 ∧ v15 = .int .i64 x15_1 ∧ qi_ (qw_.l0 kq x3_1 l0_0 (l0_0.length : Int) x15_1 = some (r1, r2)) ∧ qi_ (kq ≤ k) ∧ qi_ (w'.heap[gb120]? = some (.cells #[(.slice A0_0 l0_0.length c0_0)] 41 (0, 0))) ∧ qi_ (w'.heap[gb121]? = some (.cells #[.int .i64 x122000_1, .int .i64 x122001_1] 26 (0, 0))) ∧ qi_ (Below w.heap.size w w'))
  case atStart => exact ⟨(0), (0), (0), (0), (by first | rfl | (simp; done) | (simp [*]; done)), (by first | rfl | (simp; done) | (simp [*]; done)), H', ⟨Nat.le_refl _⟩, ⟨by (with_reducible repeat (first | refine qd_ ?_ _ | refine qh_ ?_)); exact BK120.out⟩, ⟨by (with_reducible repeat (first | refine qd_ ?_ _ | refine qh_ ?_)); exact BK121.out⟩, ⟨by repeat (first | (with_reducible first | exact HB.out | apply qe_ | apply qa_ | apply qc_ | refine qf_ ?_ GE120.out | refine qf_ ?_ GE121.out) | exact HB.out)⟩⟩
  case round =>
   clear H'
   try clear c1
   try clear c2
   try clear c2b0
   try clear c2b1
   try clear p2
   try clear c3
   try clear c5
   try clear c10
   try clear hcz11_0
   try clear hcz6_0
   try clear hcz7_0
   try clear hcz7_1
   try clear hfz11_0
   try clear hfz6_0
   try clear hfz7_0
   try clear hfz7_1
   obtain ⟨x3_1, x15_1, x122000_1, x122001_1, rfl, rfl, HA, HK1, BK120, BK121, HB⟩ := hrel
   cases gk with
   | zero => exact absurd HA.out (by simp [qw_.l0])
   | succ k1 =>
    have H := HA.out
    clear HA
    simp only [qw_.l0] at H
    by_cases c12 : x15_1 < (l0_0.length : Int)
    ·rw [if_pos c12] at H
     have c12b0 : decide (x15_1 < (l0_0.length : Int)) = true := decide_eq_true c12
     clear c12
     by_cases c13 : 0 ≤ x15_1
     ·rw [if_pos c13] at H
      have c13b0 : decide (0 ≤ x15_1) = true := decide_eq_true c13
      clear c13
      by_cases c14 : x15_1 < (l0_0.length : Int)
      ·rw [if_pos c14] at H
       have c14b0 : decide (x15_1 < (l0_0.length : Int)) = true := decide_eq_true c14
       clear c14
       replace H := Option.bind_eq_some_iff.mp H
       obtain ⟨t124, A150, H⟩ := H
       replace H : (if t124 = 0 then ((textpatch_End.f ((rd_T52 l0_0 x15_1).f0) ((rd_T52 l0_0 x15_1).f1) ((rd_T52 l0_0 x15_1).f2)).bind fun t125 => (qw_.l0 k1 (wrap64 (t125 + 1)) l0_0 (l0_0.length : Int) (wrap64 (x15_1 + 1)))) else (some (t124, x15_1))) = some (r1, r2) := H
       have A15 := qi_.mk A150
       clear A150
       by_cases c16 : t124 = 0
       ·rw [if_pos c16] at H
        have c16b0 : (t124 == 0) = true := beq_iff_eq.mpr c16
        have c16b1 : (t124 != 0) = false := bne_eq_false_iff_eq.mpr c16
        clear c16
        replace H := Option.bind_eq_some_iff.mp H
        obtain ⟨t125, A170, H⟩ := H
        replace H : (qw_.l0 k1 (wrap64 (t125 + 1)) l0_0 (l0_0.length : Int) (wrap64 (x15_1 + 1))) = some (r1, r2) := H
        have A17 := qi_.mk A170
        clear A170
        have H' := qi_.mk H
        clear H
        have p122 : 0 ≤ (x15_1 : Int) := of_decide_eq_true (by assumption)
        have q122 : x15_1 < (l0_0.length : Int) := of_decide_eq_true (by assumption)
        obtain ⟨ad122, A122_1, c122_1, A122_2, c122_2, e122, hx122_0, hx122_1, hx122_2, hl122_1, hi122_1, hl122_2, hi122_2⟩ := at_T52 HR0_0.out x15_1 p122 q122
        cases e122
        replace hx122_0 := (HB.out.cell (World.block_lt_of_cell? w _ hx122_0)).trans hx122_0
        replace hx122_1 := (HB.out.cell (World.block_lt_of_cell? w _ hx122_1)).trans hx122_1
        replace hx122_2 := (HB.out.cell (World.block_lt_of_cell? w _ hx122_2)).trans hx122_2
        have HR122_1 := qi_.mk hi122_1
        have HC122_1 := qi_.mk hl122_1
        clear hi122_1 hl122_1
        have HR122_2 := qi_.mk hi122_2
        have HC122_2 := qi_.mk hl122_2
        clear hi122_2 hl122_2
        replace p122 := eq_true p122
        replace q122 := eq_true q122
        go_wp2_with (first | ((with_reducible refine gate_dst (N := 5) rfl ?_); refine q1_ ?hg (N := 5) ?hd (cs := #[.int .i64 0, .slice none 0 0, .slice none 0 0]) (t := 52) ?hr ?_; (case hd => rfl); (case hg => rfl); (case hr => first | (go_simp; done) | (go_simp; rfl)); intro gb123 hg w18 hbox hb; have n0_ := qi_.mk (qn_ (g := gb120) (o := .cells #[.slice (some ad122) l0_0.length c0_0] 41 (0, 0)) (by (with_reducible repeat (first | refine qd_ ?_ _ | refine qh_ ?_)); exact BK120.out) hb); have n1_ := qi_.mk (qn_ (g := gb121) (o := .cells #[.int .i64 x122000_1, .int .i64 x122001_1] 26 (0, 0)) (by (with_reducible repeat (first | refine qd_ ?_ _ | refine qh_ ?_)); exact BK121.out) hb); have n2_ := qi_.mk (qr_ (by repeat (first | (with_reducible first | exact HB.out | apply qe_ | apply qa_ | apply qc_ | refine qf_ ?_ GE120.out | refine qf_ ?_ GE121.out) | exact HB.out)) hb); have n3_ := qi_.mk (hbox); have n4_ := qi_.mk ((by rw [hg]; exact (qq_ (by repeat (first | (with_reducible first | exact HB.out | apply qe_ | apply qa_ | apply qc_ | refine qf_ ?_ GE120.out | refine qf_ ?_ GE121.out) | exact HB.out))) : w.heap.size ≤ gb123)); have n5_ := qi_.mk ((by rw [hg]; exact (qq_ (by repeat (first | (with_reducible first | exact HB.out | apply qe_ | apply qa_ | apply qc_ | refine qf_ ?_ GE120.out | refine qf_ ?_ GE121.out) | exact HB.out))) : w.heap.size ≤ gb123)); have n6_ := qi_.mk ((by rw [hg]; exact Nat.ne_of_lt (blk_lt (g := gb120) (o := .cells #[.slice (some ad122) l0_0.length c0_0] 41 (0, 0)) (by (with_reducible repeat (first | refine qd_ ?_ _ | refine qh_ ?_)); exact BK120.out)) : gb120 ≠ gb123)); have n7_ := qi_.mk ((by rw [hg]; exact Nat.ne_of_gt (blk_lt (g := gb120) (o := .cells #[.slice (some ad122) l0_0.length c0_0] 41 (0, 0)) (by (with_reducible repeat (first | refine qd_ ?_ _ | refine qh_ ?_)); exact BK120.out)) : gb123 ≠ gb120)); have n8_ := qi_.mk ((by rw [hg]; exact Nat.ne_of_lt (blk_lt (g := gb121) (o := .cells #[.int .i64 x122000_1, .int .i64 x122001_1] 26 (0, 0)) (by (with_reducible repeat (first | refine qd_ ?_ _ | refine qh_ ?_)); exact BK121.out)) : gb121 ≠ gb123)); have n9_ := qi_.mk ((by rw [hg]; exact Nat.ne_of_gt (blk_lt (g := gb121) (o := .cells #[.int .i64 x122000_1, .int .i64 x122001_1] 26 (0, 0)) (by (with_reducible repeat (first | refine qd_ ?_ _ | refine qh_ ?_)); exact BK121.out)) : gb123 ≠ gb121)); clear BK120; clear BK121; clear HB; have BK120 := n0_; have BK121 := n1_; have HB := n2_; have BK123 := n3_; have GW123 := n4_; have GE123 := n5_; have NB120_123 := n6_; have NB123_120 := n7_; have NB121_123 := n8_; have NB123_121 := n9_; clear n0_ n1_ n2_ n3_ n4_ n5_ n6_ n7_ n8_ n9_; clear hb hbox hg; have hnb19 := NB123_120.out; have hnc19 := NB120_123.out; have hnb20 := NB123_121.out; have hnc20 := NB121_123.out; have hcz21_0 : w18.cell? ⟨gb123, 0, none⟩ = some (.int .i64 0) := (qb_ BK123.out 0).trans rfl; have hcz21_1 : w18.cell? ⟨gb123, 1, none⟩ = some (.slice none 0 0) := (qb_ BK123.out 1).trans rfl; have hcz21_2 : w18.cell? ⟨gb123, 2, none⟩ = some (.slice none 0 0) := (qb_ BK123.out 2).trans rfl; have hfz21_0 := qg_ BK123.out 0; have hfz21_1 := qg_ BK123.out 1; have hfz21_2 := qg_ BK123.out 2) | ((with_reducible refine q2_ (f := 37) rfl ?_); refine goesL_ (some 22) rfl rfl Try.func37 (by kernel_rfl) rfl #[.agg #[.int .i64 ((rd_T52 l0_0 x15_1).f0), .slice A122_1 ((rd_T52 l0_0 x15_1).f1).length c122_1, .slice A122_2 ((rd_T52 l0_0 x15_1).f2).length c122_2], .int .i64 x3_1] rfl (by simp only [List.map_toArray]; first | done | rfl) ?_; (with_reducible refine (qx_.calls k1 ((rd_T52 l0_0 x15_1).f0) _ _ ((rd_T52 l0_0 x15_1).f1) _ _ ((rd_T52 l0_0 x15_1).f2) x3_1 t124 _ ?side1 ?side2 ?side3 ?side4 A15.out).mono ?_); (case side1 => exact Kd.C_below HR122_1.out (by repeat (first | (with_reducible first | exact HB.out | apply qe_ | apply qa_ | apply qc_ | refine qf_ ?_ GE120.out | refine qf_ ?_ GE121.out | refine qf_ ?_ GE123.out) | exact HB.out))); (case side2 => exact HC122_1.out); (case side3 => exact Kd.C_below HR122_2.out (by repeat (first | (with_reducible first | exact HB.out | apply qe_ | apply qa_ | apply qc_ | refine qf_ ?_ GE120.out | refine qf_ ?_ GE121.out | refine qf_ ?_ GE123.out) | exact HB.out))); (case side4 => exact HC122_2.out); rintro e w22 ⟨rfl, hb⟩; refine ⟨_, rfl, ?_⟩; have n0_ := qi_.mk (qn_ (g := gb120) (o := .cells #[.slice (some ad122) l0_0.length c0_0] 41 (0, 0)) (by (with_reducible repeat (first | refine qd_ ?_ _ | refine qh_ ?_)); refine q7_ ?_ NB120_123.out _; (with_reducible repeat (first | refine qd_ ?_ _ | refine qh_ ?_)); refine q7_ ?_ NB120_123.out _; (with_reducible repeat (first | refine qd_ ?_ _ | refine qh_ ?_)); refine q7_ ?_ NB120_123.out _; (with_reducible repeat (first | refine qd_ ?_ _ | refine qh_ ?_)); exact BK120.out) hb); have n1_ := qi_.mk (qn_ (g := gb121) (o := .cells #[.int .i64 x122000_1, .int .i64 x122001_1] 26 (0, 0)) (by (with_reducible repeat (first | refine qd_ ?_ _ | refine qh_ ?_)); refine q7_ ?_ NB121_123.out _; (with_reducible repeat (first | refine qd_ ?_ _ | refine qh_ ?_)); refine q7_ ?_ NB121_123.out _; (with_reducible repeat (first | refine qd_ ?_ _ | refine qh_ ?_)); refine q7_ ?_ NB121_123.out _; (with_reducible repeat (first | refine qd_ ?_ _ | refine qh_ ?_)); exact BK121.out) hb); have n2_ := qi_.mk (qn_ (g := gb123) (o := .cells #[.int .i64 ((rd_T52 l0_0 x15_1).f0), .slice A122_1 ((rd_T52 l0_0 x15_1).f1).length c122_1, .slice A122_2 ((rd_T52 l0_0 x15_1).f2).length c122_2] 52 (0, 0)) (by (with_reducible repeat (first | refine qd_ ?_ _ | refine qh_ ?_)); refine q6_ (cs := #[.int .i64 ((rd_T52 l0_0 x15_1).f0), .slice A122_1 ((rd_T52 l0_0 x15_1).f1).length c122_1, .slice none 0 0]) ?_ 2 _ rfl; (with_reducible repeat (first | refine qd_ ?_ _ | refine qh_ ?_)); refine q6_ (cs := #[.int .i64 ((rd_T52 l0_0 x15_1).f0), .slice none 0 0, .slice none 0 0]) ?_ 1 _ rfl; (with_reducible repeat (first | refine qd_ ?_ _ | refine qh_ ?_)); refine q6_ (cs := #[.int .i64 0, .slice none 0 0, .slice none 0 0]) ?_ 0 _ rfl; (with_reducible repeat (first | refine qd_ ?_ _ | refine qh_ ?_)); exact BK123.out) hb); have n3_ := qi_.mk (qr_ (by repeat (first | (with_reducible first | exact HB.out | apply qe_ | apply qa_ | apply qc_ | refine qf_ ?_ GE120.out | refine qf_ ?_ GE121.out | refine qf_ ?_ GE123.out) | exact HB.out)) hb); clear BK120; clear BK121; clear BK123; clear HB; have BK120 := n0_; have BK121 := n1_; have BK123 := n2_; have HB := n3_; clear n0_ n1_ n2_ n3_; (try clear hb); have hcz23_0 : w22.cell? ⟨gb123, 0, none⟩ = some (.int .i64 ((rd_T52 l0_0 x15_1).f0)) := (qb_ BK123.out 0).trans rfl; have hcz23_1 : w22.cell? ⟨gb123, 1, none⟩ = some (.slice A122_1 ((rd_T52 l0_0 x15_1).f1).length c122_1) := (qb_ BK123.out 1).trans rfl; have hcz23_2 : w22.cell? ⟨gb123, 2, none⟩ = some (.slice A122_2 ((rd_T52 l0_0 x15_1).f2).length c122_2) := (qb_ BK123.out 2).trans rfl; have hfz23_0 := qg_ BK123.out 0; have hfz23_1 := qg_ BK123.out 1; have hfz23_2 := qg_ BK123.out 2) | ((with_reducible refine q2_ (f := 32) rfl ?_); refine goesL_ (some 29) rfl rfl Try.func32 (by kernel_rfl) rfl #[.agg #[.int .i64 ((rd_T52 l0_0 x15_1).f0), .slice A122_1 ((rd_T52 l0_0 x15_1).f1).length c122_1, .slice A122_2 ((rd_T52 l0_0 x15_1).f2).length c122_2]] rfl (by simp only [List.map_toArray]; first | done | rfl) ?_; (with_reducible refine (textpatch_End.calls ((rd_T52 l0_0 x15_1).f0) _ _ ((rd_T52 l0_0 x15_1).f1) _ _ ((rd_T52 l0_0 x15_1).f2) t125 _ ?side1 ?side2 ?side3 ?side4 A17.out).mono ?_); (case side1 => repeat (first | exact (Kd.C_below HR122_1.out HB.out))); (case side2 => exact HC122_1.out); (case side3 => repeat (first | exact (Kd.C_below HR122_2.out HB.out))); (case side4 => exact HC122_2.out); rintro e w24 ⟨rfl, hb⟩; refine ⟨_, rfl, ?_⟩; have n0_ := qi_.mk (qn_ (g := gb120) (o := .cells #[.slice (some ad122) l0_0.length c0_0] 41 (0, 0)) (by (with_reducible repeat (first | refine qd_ ?_ _ | refine qh_ ?_)); exact BK120.out) hb); have n1_ := qi_.mk (qn_ (g := gb121) (o := .cells #[.int .i64 x122000_1, .int .i64 x122001_1] 26 (0, 0)) (by (with_reducible repeat (first | refine qd_ ?_ _ | refine qh_ ?_)); exact BK121.out) hb); have n2_ := qi_.mk (qn_ (g := gb123) (o := .cells #[.int .i64 ((rd_T52 l0_0 x15_1).f0), .slice A122_1 ((rd_T52 l0_0 x15_1).f1).length c122_1, .slice A122_2 ((rd_T52 l0_0 x15_1).f2).length c122_2] 52 (0, 0)) (by (with_reducible repeat (first | refine qd_ ?_ _ | refine qh_ ?_)); exact BK123.out) hb); have n3_ := qi_.mk (qr_ (by repeat (first | (with_reducible first | exact HB.out | apply qe_ | apply qa_ | apply qc_ | refine qf_ ?_ GE120.out | refine qf_ ?_ GE121.out | refine qf_ ?_ GE123.out) | exact HB.out)) hb); clear BK120; clear BK121; clear BK123; clear HB; have BK120 := n0_; have BK121 := n1_; have BK123 := n2_; have HB := n3_; clear n0_ n1_ n2_ n3_; (try clear hb)))
        go_roundg k1
        case measure => have := HK1.out; omega
        case rel => exact ⟨(wrap64 (t125 + 1)), (wrap64 (x15_1 + 1)), (x122000_1), (x122001_1), (by first | rfl | (simp; done) | (simp [*]; done)), (by first | rfl | (simp; done) | (simp [*]; done)), H', ⟨by have := HK1.out; omega⟩, ⟨by (with_reducible repeat (first | refine qd_ ?_ _ | refine qh_ ?_)); exact BK120.out⟩, ⟨by (with_reducible repeat (first | refine qd_ ?_ _ | refine qh_ ?_)); exact BK121.out⟩, ⟨by repeat (first | (with_reducible first | exact HB.out | apply qe_ | apply qa_ | apply qc_ | refine qf_ ?_ GE120.out | refine qf_ ?_ GE121.out | refine qf_ ?_ GE123.out) | exact HB.out)⟩⟩
       ·rw [if_neg c16] at H
        have c16b0 : (t124 == 0) = false := beq_eq_false_iff_ne.mpr c16
        have c16b1 : (t124 != 0) = true := bne_iff_ne.mpr c16
        simp only [Option.some.injEq, Prod.mk.injEq] at H
        obtain ⟨rfl, rfl⟩ := H
        have p122 : 0 ≤ (x15_1 : Int) := of_decide_eq_true (by assumption)
        have q122 : x15_1 < (l0_0.length : Int) := of_decide_eq_true (by assumption)
        obtain ⟨ad122, A122_1, c122_1, A122_2, c122_2, e122, hx122_0, hx122_1, hx122_2, hl122_1, hi122_1, hl122_2, hi122_2⟩ := at_T52 HR0_0.out x15_1 p122 q122
        cases e122
        replace hx122_0 := (HB.out.cell (World.block_lt_of_cell? w _ hx122_0)).trans hx122_0
        replace hx122_1 := (HB.out.cell (World.block_lt_of_cell? w _ hx122_1)).trans hx122_1
        replace hx122_2 := (HB.out.cell (World.block_lt_of_cell? w _ hx122_2)).trans hx122_2
        have HR122_1 := qi_.mk hi122_1
        have HC122_1 := qi_.mk hl122_1
        clear hi122_1 hl122_1
        have HR122_2 := qi_.mk hi122_2
        have HC122_2 := qi_.mk hl122_2
        clear hi122_2 hl122_2
        replace p122 := eq_true p122
        replace q122 := eq_true q122
        go_wp2_with (first | ((with_reducible refine gate_dst (N := 5) rfl ?_); refine q1_ ?hg (N := 5) ?hd (cs := #[.int .i64 0, .slice none 0 0, .slice none 0 0]) (t := 52) ?hr ?_; (case hd => rfl); (case hg => rfl); (case hr => first | (go_simp; done) | (go_simp; rfl)); intro gb123 hg w25 hbox hb; have n0_ := qi_.mk (qn_ (g := gb120) (o := .cells #[.slice (some ad122) l0_0.length c0_0] 41 (0, 0)) (by (with_reducible repeat (first | refine qd_ ?_ _ | refine qh_ ?_)); exact BK120.out) hb); have n1_ := qi_.mk (qn_ (g := gb121) (o := .cells #[.int .i64 x122000_1, .int .i64 x122001_1] 26 (0, 0)) (by (with_reducible repeat (first | refine qd_ ?_ _ | refine qh_ ?_)); exact BK121.out) hb); have n2_ := qi_.mk (qr_ (by repeat (first | (with_reducible first | exact HB.out | apply qe_ | apply qa_ | apply qc_ | refine qf_ ?_ GE120.out | refine qf_ ?_ GE121.out) | exact HB.out)) hb); have n3_ := qi_.mk (hbox); have n4_ := qi_.mk ((by rw [hg]; exact (qq_ (by repeat (first | (with_reducible first | exact HB.out | apply qe_ | apply qa_ | apply qc_ | refine qf_ ?_ GE120.out | refine qf_ ?_ GE121.out) | exact HB.out))) : w.heap.size ≤ gb123)); have n5_ := qi_.mk ((by rw [hg]; exact (qq_ (by repeat (first | (with_reducible first | exact HB.out | apply qe_ | apply qa_ | apply qc_ | refine qf_ ?_ GE120.out | refine qf_ ?_ GE121.out) | exact HB.out))) : w.heap.size ≤ gb123)); have n6_ := qi_.mk ((by rw [hg]; exact Nat.ne_of_lt (blk_lt (g := gb120) (o := .cells #[.slice (some ad122) l0_0.length c0_0] 41 (0, 0)) (by (with_reducible repeat (first | refine qd_ ?_ _ | refine qh_ ?_)); exact BK120.out)) : gb120 ≠ gb123)); have n7_ := qi_.mk ((by rw [hg]; exact Nat.ne_of_gt (blk_lt (g := gb120) (o := .cells #[.slice (some ad122) l0_0.length c0_0] 41 (0, 0)) (by (with_reducible repeat (first | refine qd_ ?_ _ | refine qh_ ?_)); exact BK120.out)) : gb123 ≠ gb120)); have n8_ := qi_.mk ((by rw [hg]; exact Nat.ne_of_lt (blk_lt (g := gb121) (o := .cells #[.int .i64 x122000_1, .int .i64 x122001_1] 26 (0, 0)) (by (with_reducible repeat (first | refine qd_ ?_ _ | refine qh_ ?_)); exact BK121.out)) : gb121 ≠ gb123)); have n9_ := qi_.mk ((by rw [hg]; exact Nat.ne_of_gt (blk_lt (g := gb121) (o := .cells #[.int .i64 x122000_1, .int .i64 x122001_1] 26 (0, 0)) (by (with_reducible repeat (first | refine qd_ ?_ _ | refine qh_ ?_)); exact BK121.out)) : gb123 ≠ gb121)); clear BK120; clear BK121; clear HB; have BK120 := n0_; have BK121 := n1_; have HB := n2_; have BK123 := n3_; have GW123 := n4_; have GE123 := n5_; have NB120_123 := n6_; have NB123_120 := n7_; have NB121_123 := n8_; have NB123_121 := n9_; clear n0_ n1_ n2_ n3_ n4_ n5_ n6_ n7_ n8_ n9_; clear hb hbox hg; have hnb26 := NB123_120.out; have hnc26 := NB120_123.out; have hnb27 := NB123_121.out; have hnc27 := NB121_123.out; have hcz28_0 : w25.cell? ⟨gb123, 0, none⟩ = some (.int .i64 0) := (qb_ BK123.out 0).trans rfl; have hcz28_1 : w25.cell? ⟨gb123, 1, none⟩ = some (.slice none 0 0) := (qb_ BK123.out 1).trans rfl; have hcz28_2 : w25.cell? ⟨gb123, 2, none⟩ = some (.slice none 0 0) := (qb_ BK123.out 2).trans rfl; have hfz28_0 := qg_ BK123.out 0; have hfz28_1 := qg_ BK123.out 1; have hfz28_2 := qg_ BK123.out 2) | ((with_reducible refine q2_ (f := 37) rfl ?_); refine goesL_ (some 22) rfl rfl Try.func37 (by kernel_rfl) rfl #[.agg #[.int .i64 ((rd_T52 l0_0 x15_1).f0), .slice A122_1 ((rd_T52 l0_0 x15_1).f1).length c122_1, .slice A122_2 ((rd_T52 l0_0 x15_1).f2).length c122_2], .int .i64 x3_1] rfl (by simp only [List.map_toArray]; first | done | rfl) ?_; (with_reducible refine (qx_.calls k1 ((rd_T52 l0_0 x15_1).f0) _ _ ((rd_T52 l0_0 x15_1).f1) _ _ ((rd_T52 l0_0 x15_1).f2) x3_1 t124 _ ?side1 ?side2 ?side3 ?side4 A15.out).mono ?_); (case side1 => exact Kd.C_below HR122_1.out (by repeat (first | (with_reducible first | exact HB.out | apply qe_ | apply qa_ | apply qc_ | refine qf_ ?_ GE120.out | refine qf_ ?_ GE121.out | refine qf_ ?_ GE123.out) | exact HB.out))); (case side2 => exact HC122_1.out); (case side3 => exact Kd.C_below HR122_2.out (by repeat (first | (with_reducible first | exact HB.out | apply qe_ | apply qa_ | apply qc_ | refine qf_ ?_ GE120.out | refine qf_ ?_ GE121.out | refine qf_ ?_ GE123.out) | exact HB.out))); (case side4 => exact HC122_2.out); rintro e w29 ⟨rfl, hb⟩; refine ⟨_, rfl, ?_⟩; have n0_ := qi_.mk (qn_ (g := gb120) (o := .cells #[.slice (some ad122) l0_0.length c0_0] 41 (0, 0)) (by (with_reducible repeat (first | refine qd_ ?_ _ | refine qh_ ?_)); refine q7_ ?_ NB120_123.out _; (with_reducible repeat (first | refine qd_ ?_ _ | refine qh_ ?_)); refine q7_ ?_ NB120_123.out _; (with_reducible repeat (first | refine qd_ ?_ _ | refine qh_ ?_)); refine q7_ ?_ NB120_123.out _; (with_reducible repeat (first | refine qd_ ?_ _ | refine qh_ ?_)); exact BK120.out) hb); have n1_ := qi_.mk (qn_ (g := gb121) (o := .cells #[.int .i64 x122000_1, .int .i64 x122001_1] 26 (0, 0)) (by (with_reducible repeat (first | refine qd_ ?_ _ | refine qh_ ?_)); refine q7_ ?_ NB121_123.out _; (with_reducible repeat (first | refine qd_ ?_ _ | refine qh_ ?_)); refine q7_ ?_ NB121_123.out _; (with_reducible repeat (first | refine qd_ ?_ _ | refine qh_ ?_)); refine q7_ ?_ NB121_123.out _; (with_reducible repeat (first | refine qd_ ?_ _ | refine qh_ ?_)); exact BK121.out) hb); have n2_ := qi_.mk (qn_ (g := gb123) (o := .cells #[.int .i64 ((rd_T52 l0_0 x15_1).f0), .slice A122_1 ((rd_T52 l0_0 x15_1).f1).length c122_1, .slice A122_2 ((rd_T52 l0_0 x15_1).f2).length c122_2] 52 (0, 0)) (by (with_reducible repeat (first | refine qd_ ?_ _ | refine qh_ ?_)); refine q6_ (cs := #[.int .i64 ((rd_T52 l0_0 x15_1).f0), .slice A122_1 ((rd_T52 l0_0 x15_1).f1).length c122_1, .slice none 0 0]) ?_ 2 _ rfl; (with_reducible repeat (first | refine qd_ ?_ _ | refine qh_ ?_)); refine q6_ (cs := #[.int .i64 ((rd_T52 l0_0 x15_1).f0), .slice none 0 0, .slice none 0 0]) ?_ 1 _ rfl; (with_reducible repeat (first | refine qd_ ?_ _ | refine qh_ ?_)); refine q6_ (cs := #[.int .i64 0, .slice none 0 0, .slice none 0 0]) ?_ 0 _ rfl; (with_reducible repeat (first | refine qd_ ?_ _ | refine qh_ ?_)); exact BK123.out) hb); have n3_ := qi_.mk (qr_ (by repeat (first | (with_reducible first | exact HB.out | apply qe_ | apply qa_ | apply qc_ | refine qf_ ?_ GE120.out | refine qf_ ?_ GE121.out | refine qf_ ?_ GE123.out) | exact HB.out)) hb); clear BK120; clear BK121; clear BK123; clear HB; have BK120 := n0_; have BK121 := n1_; have BK123 := n2_; have HB := n3_; clear n0_ n1_ n2_ n3_; (try clear hb); have hnb30 := NB121_120.out; have hnc30 := NB120_121.out; have hcz31_0 : w29.cell? ⟨gb121, 0, none⟩ = some (.int .i64 x122000_1) := (qb_ BK121.out 0).trans rfl; have hcz31_1 : w29.cell? ⟨gb121, 1, none⟩ = some (.int .i64 x122001_1) := (qb_ BK121.out 1).trans rfl; have hfz31_0 := qg_ BK121.out 0; have hfz31_1 := qg_ BK121.out 1))
        refine bodyPost_ret (results_cell_row rfl _ _ gb121 26 #[.int .i64 t124, .int .i64 x15_1] (0, 0) _ rfl (by (with_reducible repeat (first | refine qd_ ?_ _ | refine qh_ ?_)); refine q6_ (cs := #[.int .i64 t124, .int .i64 x122001_1]) ?_ 1 _ rfl; (with_reducible repeat (first | refine qd_ ?_ _ | refine qh_ ?_)); refine q6_ (cs := #[.int .i64 x122000_1, .int .i64 x122001_1]) ?_ 0 _ rfl; (with_reducible repeat (first | refine qd_ ?_ _ | refine qh_ ?_)); exact BK121.out) Try.underlying26 rfl (by kernel_rfl)) rfl ?_
        exact ⟨by first | rfl | (simp [*] <;> rfl), by repeat (first | (with_reducible first | exact HB.out | apply qe_ | apply qa_ | apply qc_ | refine qf_ ?_ GE120.out | refine qf_ ?_ GE121.out | refine qf_ ?_ GE123.out) | exact HB.out)⟩
      ·rw [if_neg c14] at H
       exact absurd H (by simp)
     ·rw [if_neg c13] at H
      exact absurd H (by simp)
    ·rw [if_neg c12] at H
     have c12b0 : decide (x15_1 < (l0_0.length : Int)) = false := decide_eq_false c12
     clear c12
     simp only [Option.some.injEq, Prod.mk.injEq] at H
     obtain ⟨rfl, rfl⟩ := H
     have hnb32 := NB121_120.out
     have hnc32 := NB120_121.out
     have hcz33_0 : wr.cell? ⟨gb121, 0, none⟩ = some (.int .i64 x122000_1) := (qb_ BK121.out 0).trans rfl
     have hcz33_1 : wr.cell? ⟨gb121, 1, none⟩ = some (.int .i64 x122001_1) := (qb_ BK121.out 1).trans rfl
     have hfz33_0 := qg_ BK121.out 0
     have hfz33_1 := qg_ BK121.out 1
     go_wp2
     refine bodyPost_ret (results_cell_row rfl _ _ gb121 26 #[.int .i64 0, .int .i64 0] (0, 0) _ rfl (by (with_reducible repeat (first | refine qd_ ?_ _ | refine qh_ ?_)); refine q6_ (cs := #[.int .i64 0, .int .i64 x122001_1]) ?_ 1 _ rfl; (with_reducible repeat (first | refine qd_ ?_ _ | refine qh_ ?_)); refine q6_ (cs := #[.int .i64 x122000_1, .int .i64 x122001_1]) ?_ 0 _ rfl; (with_reducible repeat (first | refine qd_ ?_ _ | refine qh_ ?_)); exact BK121.out) Try.underlying26 rfl (by kernel_rfl)) rfl ?_
     exact ⟨by first | rfl | (simp [*] <;> rfl), by repeat (first | (with_reducible first | exact HB.out | apply qe_ | apply qa_ | apply qc_ | refine qf_ ?_ GE120.out | refine qf_ ?_ GE121.out) | exact HB.out)⟩

end Go.Proofs.Ytjpdcnaealdbjaa.PTh
