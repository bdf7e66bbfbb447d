-- printed by drv.py (a program of this repo, over the kit's printer)
import Derived.Test.YtjpdcnaealdbjaaPThx0
import Derived.Test.YtjpdcnaealdbjaaPThx17
namespace Go.Proofs.Ytjpdcnaealdbjaa.PTh
open Go.RowKit Go.Proofs.YtjpdcnaealdbjaaW.PrintWords Go.Proofs.YtjpdcnaealdbjaaW.PrintLast Go.Proofs.YtjpdcnaealdbjaaW.PrintMore
attribute [local go_sem] max2_int min2_int max_two min_two max_three min_three max_four min_four   -- for this text's walks alone
set_option linter.unusedVariables false
set_option linter.unusedSimpArgs false

/-! ### anchor_Place: function 35 -/
def anchor_Place.l0 : Nat → Int → Int → List (S52) → Int → Int → Option (Int × Bool)
 | 0, _, _, _, _, _ => none
 | k + 1, x1, x6, x10, x11, x12 => if x12 < x11 then (if 0 ≤ x12 then (if x12 < (x10.length : Int) then (if x1 < ((rd_T52 x10 x12).f0) then (some (wrap64 (x1 + x6), true)) else ((textpatch_End.f ((rd_T52 x10 x12).f0) ((rd_T52 x10 x12).f1) ((rd_T52 x10 x12).f2)).bind fun t155 => (if x1 < t155 then (some (wrap64 (((rd_T52 x10 x12).f0) + x6), false)) else (anchor_Place.l0 k x1 (wrap64 (x6 + (wrap64 ((((rd_T52 x10 x12).f2).length : Int) - (((rd_T52 x10 x12).f1).length : Int))))) x10 x11 (wrap64 (x12 + 1)))))) else (none)) else (none)) else (some (wrap64 (x1 + x6), true))
def anchor_Place.f (k : Nat) (l0_0 : List (S52)) (a1 : Int) : Option (Int × Bool) := anchor_Place.l0 k a1 0 l0_0 (l0_0.length : Int) 0
theorem anchor_Place.mono_l : ∀ k, (∀ y0 y1 y2 y3 y4, LeO (anchor_Place.l0 k y0 y1 y2 y3 y4) (anchor_Place.l0 (k + 1) y0 y1 y2 y3 y4))
 | 0 => fun _ _ _ _ _ r h => by simp [anchor_Place.l0] at h
 | k + 1 => by
  have ih0 := anchor_Place.mono_l k
  ·intro y0 y1 y2 y3 y4
   unfold anchor_Place.l0
   repeat' first
   | (with_reducible exact ih0 _ _ _ _ _)
   | (with_reducible exact LeO.refl _)
   | (with_reducible exact LeO.none _)
   | (with_reducible refine LeO.ite ?_ ?_)
   | (with_reducible refine LeO.bind ?_ (fun _ => ?_))
   | exact ih0 _ _ _ _ _
   | exact LeO.none _
   | refine LeO.ite ?_ ?_
   | refine LeO.bind ?_ (fun _ => ?_)
theorem anchor_Place.mono : ∀ a0 a1 k, LeO (anchor_Place.f k a0 a1) (anchor_Place.f (k + 1) a0 a1) := by
 intro a0 a1 k
 have ih0 := anchor_Place.mono_l k
 unfold anchor_Place.f
 repeat' first
   | (with_reducible exact ih0 _ _ _ _ _)
   | (with_reducible exact LeO.refl _)
   | (with_reducible exact LeO.none _)
   | (with_reducible refine LeO.ite ?_ ?_)
   | (with_reducible refine LeO.bind ?_ (fun _ => ?_))
   | exact ih0 _ _ _ _ _
   | exact LeO.none _
   | refine LeO.ite ?_ ?_
   | refine LeO.bind ?_ (fun _ => ?_)
set_option maxHeartbeats 8000000 in
set_option maxRecDepth 100000 in
theorem anchor_Place.calls (k : Nat) (A0_0 : Option Addr) (c0_0 : Nat) (l0_0 : List (S52)) (a1 : Int) (r1 : Int) (r2 : Bool) (w : World) (hr0_0 : Kd.C k52 w A0_0 l0_0.length l0_0) (hc0_0 : l0_0.length ≤ c0_0) (h : anchor_Place.f k l0_0 a1 = some (r1, r2)) :
  Calls Try.prog 35 #[.agg #[.slice A0_0 l0_0.length c0_0], .int .i64 a1] w fun e w' => e = .returned (.tuple #[.int .i64 r1, .bool r2]) ∧ Below w.heap.size w w' := by
 have hu41 := Try.underlying41
 have hu52 := Try.underlying52
 have HR0_0 := qi_.mk hr0_0
 have HC0_0 := qi_.mk hc0_0
 clear hr0_0 hc0_0
 have HB := qi_.mk (Below.refl w.heap.size w)
 have H : (anchor_Place.l0 k a1 0 l0_0 (l0_0.length : Int) 0) = some (r1, r2) := h
 clear h
 have H' := qi_.mk H
 clear H
 go_enter Try.func35, Try.ntmps35
 go_wp2_with (first | ((with_reducible refine gate_dst (N := 2) rfl ?_); refine q1_ ?hg (N := 2) ?hd (cs := #[.slice A0_0 l0_0.length c0_0]) (t := 41) ?hr ?_; (case hd => rfl); (case hg => rfl); (case hr => first | (go_simp; done) | (go_simp; rfl)); intro gb152 hg w3 hbox hb; have n0_ := qi_.mk (qr_ (by repeat (first | (with_reducible first | exact HB.out | apply qe_ | apply qa_ | apply qc_) | exact HB.out)) hb); have n1_ := qi_.mk (hbox); have n2_ := qi_.mk ((by rw [hg]; exact (qq_ (by repeat (first | (with_reducible first | exact HB.out | apply qe_ | apply qa_ | apply qc_) | exact HB.out))) : w.heap.size ≤ gb152)); have n3_ := qi_.mk ((by rw [hg]; exact (qq_ (by repeat (first | (with_reducible first | exact HB.out | apply qe_ | apply qa_ | apply qc_) | exact HB.out))) : w.heap.size ≤ gb152)); clear HB; have HB := n0_; have BK152 := n1_; have GW152 := n2_; have GE152 := n3_; clear n0_ n1_ n2_ n3_; clear hb hbox hg; have hcz4_0 : w3.cell? ⟨gb152, 0, none⟩ = some (.slice A0_0 l0_0.length c0_0) := (qb_ BK152.out 0).trans rfl; have hfz4_0 := qg_ BK152.out 0))
 go_loopg [6, 12] k (fun kq v6 v12 w' => ∃ (x6_1 : Int) (x12_1 : Int), v6 = .int .i64 x6_1 ∧ v12 = .int .i64 x12_1 ∧ qi_ (anchor_Place.l0 kq a1 x6_1 l0_0 (l0_0.length : Int) x12_1 = some (r1, r2)) ∧ qi_ (kq ≤ k) ∧ qi_ (w'.heap[gb152]? = some (.cells #[(.slice A0_0 l0_0.length c0_0)] 41 (0, 0))) ∧ qi_ (Below w.heap.size w w'))
 case atStart => exact ⟨(0), (0), (by first | rfl | (simp; done) | (simp [*]; done)), (by first | rfl | (simp; done) | (simp [*]; done)), H', ⟨Nat.le_refl _⟩, ⟨by (with_reducible repeat (first | refine qd_ ?_ _ | refine qh_ ?_)); exact BK152.out⟩, ⟨by repeat (first | (with_reducible first | exact HB.out | apply qe_ | apply qa_ | apply qc_ | refine qf_ ?_ GE152.out) | exact HB.out)⟩⟩
 case round =>
  clear H'
  try clear p2
  try clear c3
  try clear hcz4_0
  try clear hfz4_0
  obtain ⟨x6_1, x12_1, rfl, rfl, HA, HK1, BK152, HB⟩ := hrel
  cases gk with
  | zero => exact absurd HA.out (by simp [anchor_Place.l0])
  | succ k1 =>
   have H := HA.out
   clear HA
   simp only [anchor_Place.l0] at H
   by_cases c5 : x12_1 < (l0_0.length : Int)
   ·rw [if_pos c5] at H
    have c5b0 : decide (x12_1 < (l0_0.length : Int)) = true := decide_eq_true c5
    clear c5
    by_cases c6 : 0 ≤ x12_1
    ·rw [if_pos c6] at H
     have c6b0 : decide (0 ≤ x12_1) = true := decide_eq_true c6
     clear c6
     by_cases c7 : x12_1 < (l0_0.length : Int)
     ·rw [if_pos c7] at H
      have c7b0 : decide (x12_1 < (l0_0.length : Int)) = true := decide_eq_true c7
      clear c7
      by_cases c8 : a1 < ((rd_T52 l0_0 x12_1).f0)
      ·rw [if_pos c8] at H
       have c8b0 : decide (a1 < ((rd_T52 l0_0 x12_1).f0)) = true := decide_eq_true c8
       clear c8
       simp only [Option.some.injEq, Prod.mk.injEq] at H
       obtain ⟨rfl, rfl⟩ := H
       have p153 : 0 ≤ (x12_1 : Int) := of_decide_eq_true (by assumption)
       have q153 : x12_1 < (l0_0.length : Int) := of_decide_eq_true (by assumption)
       obtain ⟨ad153, A153_1, c153_1, A153_2, c153_2, e153, hx153_0, hx153_1, hx153_2, hl153_1, hi153_1, hl153_2, hi153_2⟩ := at_T52 HR0_0.out x12_1 p153 q153
       cases e153
       replace hx153_0 := (HB.out.cell (World.block_lt_of_cell? w _ hx153_0)).trans hx153_0
       replace hx153_1 := (HB.out.cell (World.block_lt_of_cell? w _ hx153_1)).trans hx153_1
       replace hx153_2 := (HB.out.cell (World.block_lt_of_cell? w _ hx153_2)).trans hx153_2
       have HR153_1 := qi_.mk hi153_1
       have HC153_1 := qi_.mk hl153_1
       clear hi153_1 hl153_1
       have HR153_2 := qi_.mk hi153_2
       have HC153_2 := qi_.mk hl153_2
       clear hi153_2 hl153_2
       replace p153 := eq_true p153
       replace q153 := eq_true q153
       go_wp2_with (first | ((with_reducible refine gate_dst (N := 8) rfl ?_); refine q1_ ?hg (N := 8) ?hd (cs := #[.int .i64 0, .slice none 0 0, .slice none 0 0]) (t := 52) ?hr ?_; (case hd => rfl); (case hg => rfl); (case hr => first | (go_simp; done) | (go_simp; rfl)); intro gb154 hg w9 hbox hb; have n0_ := qi_.mk (qn_ (g := gb152) (o := .cells #[.slice (some ad153) l0_0.length c0_0] 41 (0, 0)) (by (with_reducible repeat (first | refine qd_ ?_ _ | refine qh_ ?_)); exact BK152.out) hb); have n1_ := qi_.mk (qr_ (by repeat (first | (with_reducible first | exact HB.out | apply qe_ | apply qa_ | apply qc_ | refine qf_ ?_ GE152.out) | exact HB.out)) hb); have n2_ := qi_.mk (hbox); have n3_ := qi_.mk ((by rw [hg]; exact (qq_ (by repeat (first | (with_reducible first | exact HB.out | apply qe_ | apply qa_ | apply qc_ | refine qf_ ?_ GE152.out) | exact HB.out))) : w.heap.size ≤ gb154)); have n4_ := qi_.mk ((by rw [hg]; exact (qq_ (by repeat (first | (with_reducible first | exact HB.out | apply qe_ | apply qa_ | apply qc_ | refine qf_ ?_ GE152.out) | exact HB.out))) : w.heap.size ≤ gb154)); have n5_ := qi_.mk ((by rw [hg]; exact Nat.ne_of_lt (blk_lt (g := gb152) (o := .cells #[.slice (some ad153) l0_0.length c0_0] 41 (0, 0)) (by (with_reducible repeat (first | refine qd_ ?_ _ | refine qh_ ?_)); exact BK152.out)) : gb152 ≠ gb154)); have n6_ := qi_.mk ((by rw [hg]; exact Nat.ne_of_gt (blk_lt (g := gb152) (o := .cells #[.slice (some ad153) l0_0.length c0_0] 41 (0, 0)) (by (with_reducible repeat (first | refine qd_ ?_ _ | refine qh_ ?_)); exact BK152.out)) : gb154 ≠ gb152)); clear BK152; clear HB; have BK152 := n0_; have HB := n1_; have BK154 := n2_; have GW154 := n3_; have GE154 := n4_; have NB152_154 := n5_; have NB154_152 := n6_; clear n0_ n1_ n2_ n3_ n4_ n5_ n6_; clear hb hbox hg; have hnb10 := NB154_152.out; have hnc10 := NB152_154.out; have hcz11_0 : w9.cell? ⟨gb154, 0, none⟩ = some (.int .i64 0) := (qb_ BK154.out 0).trans rfl; have hcz11_1 : w9.cell? ⟨gb154, 1, none⟩ = some (.slice none 0 0) := (qb_ BK154.out 1).trans rfl; have hcz11_2 : w9.cell? ⟨gb154, 2, none⟩ = some (.slice none 0 0) := (qb_ BK154.out 2).trans rfl; have hfz11_0 := qg_ BK154.out 0; have hfz11_1 := qg_ BK154.out 1; have hfz11_2 := qg_ BK154.out 2))
       go_ret2
       exact ⟨by first | rfl | (simp [*] <;> rfl), by repeat (first | (with_reducible first | exact HB.out | apply qe_ | apply qa_ | apply qc_ | refine qf_ ?_ GE152.out | refine qf_ ?_ GE154.out) | exact HB.out)⟩
      ·rw [if_neg c8] at H
       have c8b0 : decide (a1 < ((rd_T52 l0_0 x12_1).f0)) = false := decide_eq_false c8
       clear c8
       replace H := Option.bind_eq_some_iff.mp H
       obtain ⟨t155, A120, H⟩ := H
       replace H : (if a1 < t155 then (some (wrap64 (((rd_T52 l0_0 x12_1).f0) + x6_1), false)) else (anchor_Place.l0 k1 a1 (wrap64 (x6_1 + (wrap64 ((((rd_T52 l0_0 x12_1).f2).length : Int) - (((rd_T52 l0_0 x12_1).f1).length : Int))))) l0_0 (l0_0.length : Int) (wrap64 (x12_1 + 1)))) = some (r1, r2) := H
       have A12 := qi_.mk A120
       clear A120
       by_cases c13 : a1 < t155
       ·rw [if_pos c13] at H
        have c13b0 : decide (a1 < t155) = true := decide_eq_true c13
        clear c13
        simp only [Option.some.injEq, Prod.mk.injEq] at H
        obtain ⟨rfl, rfl⟩ := H
        have p153 : 0 ≤ (x12_1 : Int) := of_decide_eq_true (by assumption)
        have q153 : x12_1 < (l0_0.length : Int) := of_decide_eq_true (by assumption)
        obtain ⟨ad153, A153_1, c153_1, A153_2, c153_2, e153, hx153_0, hx153_1, hx153_2, hl153_1, hi153_1, hl153_2, hi153_2⟩ := at_T52 HR0_0.out x12_1 p153 q153
        cases e153
        replace hx153_0 := (HB.out.cell (World.block_lt_of_cell? w _ hx153_0)).trans hx153_0
        replace hx153_1 := (HB.out.cell (World.block_lt_of_cell? w _ hx153_1)).trans hx153_1
        replace hx153_2 := (HB.out.cell (World.block_lt_of_cell? w _ hx153_2)).trans hx153_2
        have HR153_1 := qi_.mk hi153_1
        have HC153_1 := qi_.mk hl153_1
        clear hi153_1 hl153_1
        have HR153_2 := qi_.mk hi153_2
        have HC153_2 := qi_.mk hl153_2
        clear hi153_2 hl153_2
        replace p153 := eq_true p153
        replace q153 := eq_true q153
        go_wp2_with (first | ((with_reducible refine gate_dst (N := 8) rfl ?_); refine q1_ ?hg (N := 8) ?hd (cs := #[.int .i64 0, .slice none 0 0, .slice none 0 0]) (t := 52) ?hr ?_; (case hd => rfl); (case hg => rfl); (case hr => first | (go_simp; done) | (go_simp; rfl)); intro gb154 hg w14 hbox hb; have n0_ := qi_.mk (qn_ (g := gb152) (o := .cells #[.slice (some ad153) l0_0.length c0_0] 41 (0, 0)) (by (with_reducible repeat (first | refine qd_ ?_ _ | refine qh_ ?_)); exact BK152.out) hb); have n1_ := qi_.mk (qr_ (by repeat (first | (with_reducible first | exact HB.out | apply qe_ | apply qa_ | apply qc_ | refine qf_ ?_ GE152.out) | exact HB.out)) hb); have n2_ := qi_.mk (hbox); have n3_ := qi_.mk ((by rw [hg]; exact (qq_ (by repeat (first | (with_reducible first | exact HB.out | apply qe_ | apply qa_ | apply qc_ | refine qf_ ?_ GE152.out) | exact HB.out))) : w.heap.size ≤ gb154)); have n4_ := qi_.mk ((by rw [hg]; exact (qq_ (by repeat (first | (with_reducible first | exact HB.out | apply qe_ | apply qa_ | apply qc_ | refine qf_ ?_ GE152.out) | exact HB.out))) : w.heap.size ≤ gb154)); have n5_ := qi_.mk ((by rw [hg]; exact Nat.ne_of_lt (blk_lt (g := gb152) (o := .cells #[.slice (some ad153) l0_0.length c0_0] 41 (0, 0)) (by (with_reducible repeat (first | refine qd_ ?_ _ | refine qh_ ?_)); exact BK152.out)) : gb152 ≠ gb154)); have n6_ := qi_.mk ((by rw [hg]; exact Nat.ne_of_gt (blk_lt (g := gb152) (o := .cells #[.slice (some ad153) l0_0.length c0_0] 41 (0, 0)) (by (with_reducible repeat (first | refine qd_ ?_ _ | refine qh_ ?_)); exact BK152.out)) : gb154 ≠ gb152)); clear BK152; clear HB; have BK152 := n0_; have HB := n1_; have BK154 := n2_; have GW154 := n3_; have GE154 := n4_; have NB152_154 := n5_; have NB154_152 := n6_; clear n0_ n1_ n2_ n3_ n4_ n5_ n6_; clear hb hbox hg; have hnb15 := NB154_152.out; have hnc15 := NB152_154.out; have hcz16_0 : w14.cell? ⟨gb154, 0, none⟩ = some (.int .i64 0) := (qb_ BK154.out 0).trans rfl; have hcz16_1 : w14.cell? ⟨gb154, 1, none⟩ = some (.slice none 0 0) := (qb_ BK154.out 1).trans rfl; have hcz16_2 : w14.cell? ⟨gb154, 2, none⟩ = some (.slice none 0 0) := (qb_ BK154.out 2).trans rfl; have hfz16_0 := qg_ BK154.out 0; have hfz16_1 := qg_ BK154.out 1; have hfz16_2 := qg_ BK154.out 2) | ((with_reducible refine q2_ (f := 32) rfl ?_); refine goesL_ (some 27) rfl rfl Try.func32 (by kernel_rfl) rfl #[.agg #[.int .i64 ((rd_T52 l0_0 x12_1).f0), .slice A153_1 ((rd_T52 l0_0 x12_1).f1).length c153_1, .slice A153_2 ((rd_T52 l0_0 x12_1).f2).length c153_2]] rfl (by simp only [List.map_toArray]; first | done | rfl) ?_; (with_reducible refine (textpatch_End.calls ((rd_T52 l0_0 x12_1).f0) _ _ ((rd_T52 l0_0 x12_1).f1) _ _ ((rd_T52 l0_0 x12_1).f2) t155 _ ?side1 ?side2 ?side3 ?side4 A12.out).mono ?_); (case side1 => exact Kd.C_below HR153_1.out (by repeat (first | (with_reducible first | exact HB.out | apply qe_ | apply qa_ | apply qc_ | refine qf_ ?_ GE152.out | refine qf_ ?_ GE154.out) | exact HB.out))); (case side2 => exact HC153_1.out); (case side3 => exact Kd.C_below HR153_2.out (by repeat (first | (with_reducible first | exact HB.out | apply qe_ | apply qa_ | apply qc_ | refine qf_ ?_ GE152.out | refine qf_ ?_ GE154.out) | exact HB.out))); (case side4 => exact HC153_2.out); rintro e w17 ⟨rfl, hb⟩; refine ⟨_, rfl, ?_⟩; have n0_ := qi_.mk (qn_ (g := gb152) (o := .cells #[.slice (some ad153) l0_0.length c0_0] 41 (0, 0)) (by (with_reducible repeat (first | refine qd_ ?_ _ | refine qh_ ?_)); refine q7_ ?_ NB152_154.out _; (with_reducible repeat (first | refine qd_ ?_ _ | refine qh_ ?_)); refine q7_ ?_ NB152_154.out _; (with_reducible repeat (first | refine qd_ ?_ _ | refine qh_ ?_)); refine q7_ ?_ NB152_154.out _; (with_reducible repeat (first | refine qd_ ?_ _ | refine qh_ ?_)); exact BK152.out) hb); have n1_ := qi_.mk (qn_ (g := gb154) (o := .cells #[.int .i64 ((rd_T52 l0_0 x12_1).f0), .slice A153_1 ((rd_T52 l0_0 x12_1).f1).length c153_1, .slice A153_2 ((rd_T52 l0_0 x12_1).f2).length c153_2] 52 (0, 0)) (by (with_reducible repeat (first | refine qd_ ?_ _ | refine qh_ ?_)); refine q6_ (cs := #[.int .i64 ((rd_T52 l0_0 x12_1).f0), .slice A153_1 ((rd_T52 l0_0 x12_1).f1).length c153_1, .slice none 0 0]) ?_ 2 _ rfl; (with_reducible repeat (first | refine qd_ ?_ _ | refine qh_ ?_)); refine q6_ (cs := #[.int .i64 ((rd_T52 l0_0 x12_1).f0), .slice none 0 0, .slice none 0 0]) ?_ 1 _ rfl; (with_reducible repeat (first | refine qd_ ?_ _ | refine qh_ ?_)); refine q6_ (cs := #[.int .i64 0, .slice none 0 0, .slice none 0 0]) ?_ 0 _ rfl; (with_reducible repeat (first | refine qd_ ?_ _ | refine qh_ ?_)); exact BK154.out) hb); have n2_ := qi_.mk (qr_ (by repeat (first | (with_reducible first | exact HB.out | apply qe_ | apply qa_ | apply qc_ | refine qf_ ?_ GE152.out | refine qf_ ?_ GE154.out) | exact HB.out)) hb); clear BK152; clear BK154; clear HB; have BK152 := n0_; have BK154 := n1_; have HB := n2_; clear n0_ n1_ n2_; (try clear hb); have hcz18_0 : w17.cell? ⟨gb154, 0, none⟩ = some (.int .i64 ((rd_T52 l0_0 x12_1).f0)) := (qb_ BK154.out 0).trans rfl; have hcz18_1 : w17.cell? ⟨gb154, 1, none⟩ = some (.slice A153_1 ((rd_T52 l0_0 x12_1).f1).length c153_1) := (qb_ BK154.out 1).trans rfl; have hcz18_2 : w17.cell? ⟨gb154, 2, none⟩ = some (.slice A153_2 ((rd_T52 l0_0 x12_1).f2).length c153_2) := (qb_ BK154.out 2).trans rfl; have hfz18_0 := qg_ BK154.out 0; have hfz18_1 := qg_ BK154.out 1; have hfz18_2 := qg_ BK154.out 2))
        go_ret2
        exact ⟨by first | rfl | (simp [*] <;> rfl), by repeat (first | (with_reducible first | exact HB.out | apply qe_ | apply qa_ | apply qc_ | refine qf_ ?_ GE152.out | refine qf_ ?_ GE154.out) | exact HB.out)⟩
       ·rw [if_neg c13] at H
        have c13b0 : decide (a1 < t155) = false := decide_eq_false c13
        clear c13
        have H' := qi_.mk H
        clear H
        have p153 : 0 ≤ (x12_1 : Int) := of_decide_eq_true (by assumption)
        have q153 : x12_1 < (l0_0.length : Int) := of_decide_eq_true (by assumption)
        obtain ⟨ad153, A153_1, c153_1, A153_2, c153_2, e153, hx153_0, hx153_1, hx153_2, hl153_1, hi153_1, hl153_2, hi153_2⟩ := at_T52 HR0_0.out x12_1 p153 q153
        cases e153
        replace hx153_0 := (HB.out.cell (World.block_lt_of_cell? w _ hx153_0)).trans hx153_0
        replace hx153_1 := (HB.out.cell (World.block_lt_of_cell? w _ hx153_1)).trans hx153_1
        replace hx153_2 := (HB.out.cell (World.block_lt_of_cell? w _ hx153_2)).trans hx153_2
        have HR153_1 := qi_.mk hi153_1
        have HC153_1 := qi_.mk hl153_1
        clear hi153_1 hl153_1
        have HR153_2 := qi_.mk hi153_2
        have HC153_2 := qi_.mk hl153_2
        clear hi153_2 hl153_2
        replace p153 := eq_true p153
        replace q153 := eq_true q153
        go_wp2_with (first | ((with_reducible refine gate_dst (N := 8) rfl ?_); refine q1_ ?hg (N := 8) ?hd (cs := #[.int .i64 0, .slice none 0 0, .slice none 0 0]) (t := 52) ?hr ?_; (case hd => rfl); (case hg => rfl); (case hr => first | (go_simp; done) | (go_simp; rfl)); intro gb154 hg w19 hbox hb; have n0_ := qi_.mk (qn_ (g := gb152) (o := .cells #[.slice (some ad153) l0_0.length c0_0] 41 (0, 0)) (by (with_reducible repeat (first | refine qd_ ?_ _ | refine qh_ ?_)); exact BK152.out) hb); have n1_ := qi_.mk (qr_ (by repeat (first | (with_reducible first | exact HB.out | apply qe_ | apply qa_ | apply qc_ | refine qf_ ?_ GE152.out) | exact HB.out)) hb); have n2_ := qi_.mk (hbox); have n3_ := qi_.mk ((by rw [hg]; exact (qq_ (by repeat (first | (with_reducible first | exact HB.out | apply qe_ | apply qa_ | apply qc_ | refine qf_ ?_ GE152.out) | exact HB.out))) : w.heap.size ≤ gb154)); have n4_ := qi_.mk ((by rw [hg]; exact (qq_ (by repeat (first | (with_reducible first | exact HB.out | apply qe_ | apply qa_ | apply qc_ | refine qf_ ?_ GE152.out) | exact HB.out))) : w.heap.size ≤ gb154)); have n5_ := qi_.mk ((by rw [hg]; exact Nat.ne_of_lt (blk_lt (g := gb152) (o := .cells #[.slice (some ad153) l0_0.length c0_0] 41 (0, 0)) (by (with_reducible repeat (first | refine qd_ ?_ _ | refine qh_ ?_)); exact BK152.out)) : gb152 ≠ gb154)); have n6_ := qi_.mk ((by rw [hg]; exact Nat.ne_of_gt (blk_lt (g := gb152) (o := .cells #[.slice (some ad153) l0_0.length c0_0] 41 (0, 0)) (by (with_reducible repeat (first | refine qd_ ?_ _ | refine qh_ ?_)); exact BK152.out)) : gb154 ≠ gb152)); clear BK152; clear HB; have BK152 := n0_; have HB := n1_; have BK154 := n2_; have GW154 := n3_; have GE154 := n4_; have NB152_154 := n5_; have NB154_152 := n6_; clear n0_ n1_ n2_ n3_ n4_ n5_ n6_; clear hb hbox hg; have hnb20 := NB154_152.out; have hnc20 := NB152_154.out; have hcz21_0 : w19.cell? ⟨gb154, 0, none⟩ = some (.int .i64 0) := (qb_ BK154.out 0).trans rfl; have hcz21_1 : w19.cell? ⟨gb154, 1, none⟩ = some (.slice none 0 0) := (qb_ BK154.out 1).trans rfl; have hcz21_2 : w19.cell? ⟨gb154, 2, none⟩ = some (.slice none 0 0) := (qb_ BK154.out 2).trans rfl; have hfz21_0 := qg_ BK154.out 0; have hfz21_1 := qg_ BK154.out 1; have hfz21_2 := qg_ BK154.out 2) | ((with_reducible refine q2_ (f := 32) rfl ?_); refine goesL_ (some 27) rfl rfl Try.func32 (by kernel_rfl) rfl #[.agg #[.int .i64 ((rd_T52 l0_0 x12_1).f0), .slice A153_1 ((rd_T52 l0_0 x12_1).f1).length c153_1, .slice A153_2 ((rd_T52 l0_0 x12_1).f2).length c153_2]] rfl (by simp only [List.map_toArray]; first | done | rfl) ?_; (with_reducible refine (textpatch_End.calls ((rd_T52 l0_0 x12_1).f0) _ _ ((rd_T52 l0_0 x12_1).f1) _ _ ((rd_T52 l0_0 x12_1).f2) t155 _ ?side1 ?side2 ?side3 ?side4 A12.out).mono ?_); (case side1 => exact Kd.C_below HR153_1.out (by repeat (first | (with_reducible first | exact HB.out | apply qe_ | apply qa_ | apply qc_ | refine qf_ ?_ GE152.out | refine qf_ ?_ GE154.out) | exact HB.out))); (case side2 => exact HC153_1.out); (case side3 => exact Kd.C_below HR153_2.out (by repeat (first | (with_reducible first | exact HB.out | apply qe_ | apply qa_ | apply qc_ | refine qf_ ?_ GE152.out | refine qf_ ?_ GE154.out) | exact HB.out))); (case side4 => exact HC153_2.out); rintro e w22 ⟨rfl, hb⟩; refine ⟨_, rfl, ?_⟩; have n0_ := qi_.mk (qn_ (g := gb152) (o := .cells #[.slice (some ad153) l0_0.length c0_0] 41 (0, 0)) (by (with_reducible repeat (first | refine qd_ ?_ _ | refine qh_ ?_)); refine q7_ ?_ NB152_154.out _; (with_reducible repeat (first | refine qd_ ?_ _ | refine qh_ ?_)); refine q7_ ?_ NB152_154.out _; (with_reducible repeat (first | refine qd_ ?_ _ | refine qh_ ?_)); refine q7_ ?_ NB152_154.out _; (with_reducible repeat (first | refine qd_ ?_ _ | refine qh_ ?_)); exact BK152.out) hb); have n1_ := qi_.mk (qn_ (g := gb154) (o := .cells #[.int .i64 ((rd_T52 l0_0 x12_1).f0), .slice A153_1 ((rd_T52 l0_0 x12_1).f1).length c153_1, .slice A153_2 ((rd_T52 l0_0 x12_1).f2).length c153_2] 52 (0, 0)) (by (with_reducible repeat (first | refine qd_ ?_ _ | refine qh_ ?_)); refine q6_ (cs := #[.int .i64 ((rd_T52 l0_0 x12_1).f0), .slice A153_1 ((rd_T52 l0_0 x12_1).f1).length c153_1, .slice none 0 0]) ?_ 2 _ rfl; (with_reducible repeat (first | refine qd_ ?_ _ | refine qh_ ?_)); refine q6_ (cs := #[.int .i64 ((rd_T52 l0_0 x12_1).f0), .slice none 0 0, .slice none 0 0]) ?_ 1 _ rfl; (with_reducible repeat (first | refine qd_ ?_ _ | refine qh_ ?_)); refine q6_ (cs := #[.int .i64 0, .slice none 0 0, .slice none 0 0]) ?_ 0 _ rfl; (with_reducible repeat (first | refine qd_ ?_ _ | refine qh_ ?_)); exact BK154.out) hb); have n2_ := qi_.mk (qr_ (by repeat (first | (with_reducible first | exact HB.out | apply qe_ | apply qa_ | apply qc_ | refine qf_ ?_ GE152.out | refine qf_ ?_ GE154.out) | exact HB.out)) hb); clear BK152; clear BK154; clear HB; have BK152 := n0_; have BK154 := n1_; have HB := n2_; clear n0_ n1_ n2_; (try clear hb); have hcz23_0 : w22.cell? ⟨gb154, 0, none⟩ = some (.int .i64 ((rd_T52 l0_0 x12_1).f0)) := (qb_ BK154.out 0).trans rfl; have hcz23_1 : w22.cell? ⟨gb154, 1, none⟩ = some (.slice A153_1 ((rd_T52 l0_0 x12_1).f1).length c153_1) := (qb_ BK154.out 1).trans rfl; have hcz23_2 : w22.cell? ⟨gb154, 2, none⟩ = some (.slice A153_2 ((rd_T52 l0_0 x12_1).f2).length c153_2) := (qb_ BK154.out 2).trans rfl; have hfz23_0 := qg_ BK154.out 0; have hfz23_1 := qg_ BK154.out 1; have hfz23_2 := qg_ BK154.out 2))
        go_roundg k1
        case measure => have := HK1.out; omega
        case rel => exact ⟨(wrap64 (x6_1 + (wrap64 ((((rd_T52 l0_0 x12_1).f2).length : Int) - (((rd_T52 l0_0 x12_1).f1).length : Int))))), (wrap64 (x12_1 + 1)), (by first | rfl | (simp; done) | (simp [*]; done)), (by first | rfl | (simp; done) | (simp [*]; done)), H', ⟨by have := HK1.out; omega⟩, ⟨by (with_reducible repeat (first | refine qd_ ?_ _ | refine qh_ ?_)); exact BK152.out⟩, ⟨by repeat (first | (with_reducible first | exact HB.out | apply qe_ | apply qa_ | apply qc_ | refine qf_ ?_ GE152.out | refine qf_ ?_ GE154.out) | exact HB.out)⟩⟩
     ·rw [if_neg c7] at H
      exact absurd H (by simp)
    ·rw [if_neg c6] at H
     exact absurd H (by simp)
   ·rw [if_neg c5] at H
    have c5b0 : decide (x12_1 < (l0_0.length : Int)) = false := decide_eq_false c5
    clear c5
    simp only [Option.some.injEq, Prod.mk.injEq] at H
    obtain ⟨rfl, rfl⟩ := H
    go_wp2
    go_ret2
    exact ⟨by first | rfl | (simp [*] <;> rfl), by repeat (first | (with_reducible first | exact HB.out | apply qe_ | apply qa_ | apply qc_ | refine qf_ ?_ GE152.out) | exact HB.out)⟩

end Go.Proofs.Ytjpdcnaealdbjaa.PTh
