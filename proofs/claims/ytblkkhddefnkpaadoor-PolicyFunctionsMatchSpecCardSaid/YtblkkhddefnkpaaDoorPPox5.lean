-- printed by drv.py (a program of this repo, over the kit's printer)
import Derived.Test.YtblkkhddefnkpaaDoorPPox0
import Derived.Test.YtblkkhddefnkpaaDoorPPox3
import Derived.Test.YtblkkhddefnkpaaDoorPPox4
namespace Go.Proofs.YtblkkhddefnkpaaDoor.PPo
open Go.RowKit Go.Proofs.YtblkkhddefnkpaaDoorW.PrintWords Go.Proofs.YtblkkhddefnkpaaDoorW.PrintLast Go.Proofs.YtblkkhddefnkpaaDoorW.PrintMore
attribute [local go_sem] max2_int min2_int max_two min_two max_three min_three max_four min_four   -- for this text's walks alone
set_option linter.unusedVariables false
set_option linter.unusedSimpArgs false

/-! ### qw_: function 13 -/
def qw_.l0 : Nat → List (S62) → List (S47) → Int → Int → List (S47) → Option (Int × Int)
 | 0, _, _, _, _, _ => none
 | k + 1, x4, x21, x22, x23, x114000 => if x23 < x22 then (if 0 ≤ x23 then (if x23 < (x21.length : Int) then ((qu_.f k ((qj_ x21 x23).f0) ((qj_ x21 x23).f1) ((qj_ x21 x23).f2) ((qj_ x21 x23).f3) x4).bind fun t117 => (if t117 = 0 then ((policy_shapeOf.f ((qj_ x21 x23).f0) ((qj_ x21 x23).f1) ((qj_ x21 x23).f2) ((qj_ x21 x23).f3) x4).bind fun bt118 => (if x4.length < 8796093022208 then (qw_.l0 k (x4 ++ [(⟨bt118.1, bt118.2⟩ : S62)]) x21 x22 (wrap64 (x23 + 1)) x114000) else (none))) else (some (t117, x23)))) else (none)) else (none)) else (if 0 ≤ (wrap64 ((x4.length : Int) - 1)) then (if (wrap64 ((x4.length : Int) - 1)) < (x4.length : Int) then (if ((rd_T62 x4 (wrap64 ((x4.length : Int) - 1))).f0) = (x114000.length : Int) then (if ((rd_T62 x4 (wrap64 ((x4.length : Int) - 1))).f1) > 12 then (some (10, (-1))) else (some (0, 0))) else (some (5, (-1)))) else (none)) else (none))
def qw_.f (k : Nat) (l0_0 : List (S47)) : Option (Int × Int) := if (l0_0.length : Int) = 0 then (some (9, (-1))) else (if (l0_0.length : Int) > 24 then (some (2, (-1))) else (qw_.l0 k ([] : List (S62)) l0_0 (l0_0.length : Int) 0 l0_0))
theorem qw_.mono_l : ∀ k, (∀ y0 y1 y2 y3 y4, LeO (qw_.l0 k y0 y1 y2 y3 y4) (qw_.l0 (k + 1) y0 y1 y2 y3 y4))
 | 0 => fun _ _ _ _ _ r h => by simp [qw_.l0] at h
 | k + 1 => by
  have ih0 := qw_.mono_l k
  ·intro y0 y1 y2 y3 y4
   unfold qw_.l0
   repeat' first
   | (with_reducible exact ih0 _ _ _ _ _)
   | (with_reducible exact qu_.mono _ _ _ _ _ _)
   | (with_reducible exact LeO.refl _)
   | (with_reducible exact LeO.none _)
   | (with_reducible refine LeO.ite ?_ ?_)
   | (with_reducible refine LeO.bind ?_ (fun _ => ?_))
   | exact ih0 _ _ _ _ _
   | exact qu_.mono _ _ _ _ _ _
   | exact LeO.none _
   | refine LeO.ite ?_ ?_
   | refine LeO.bind ?_ (fun _ => ?_)
theorem qw_.mono : ∀ a0 k, LeO (qw_.f k a0) (qw_.f (k + 1) a0) := by
 intro a0 k
 have ih0 := qw_.mono_l k
 unfold qw_.f
 repeat' first
   | (with_reducible exact ih0 _ _ _ _ _)
   | (with_reducible exact qu_.mono _ _ _ _ _ _)
   | (with_reducible exact LeO.refl _)
   | (with_reducible exact LeO.none _)
   | (with_reducible refine LeO.ite ?_ ?_)
   | (with_reducible refine LeO.bind ?_ (fun _ => ?_))
   | exact ih0 _ _ _ _ _
   | exact qu_.mono _ _ _ _ _ _
   | exact LeO.none _
   | refine LeO.ite ?_ ?_
   | refine LeO.bind ?_ (fun _ => ?_)
set_option maxHeartbeats 8000000 in
set_option maxRecDepth 100000 in
theorem qw_.calls (k : Nat) (A0_0 : Option Addr) (c0_0 : Nat) (l0_0 : List (S47)) (r1 : Int) (r2 : Int) (w : World) (hr0_0 : Kd.C k47 w A0_0 l0_0.length l0_0) (hc0_0 : l0_0.length ≤ c0_0) (h : qw_.f k l0_0 = some (r1, r2)) :
  Calls Tryd.prog 13 #[.agg #[.slice A0_0 l0_0.length c0_0]] w fun e w' => e = .returned (.agg #[.int .i64 r1, .int .i64 r2]) ∧ Below w.heap.size w w' := by
 have hu24 := Tryd.underlying24
 have hu28 := Tryd.underlying28
 have hu47 := Tryd.underlying47
 have hu62 := Tryd.underlying62
 have HR0_0 := Aside0.mk hr0_0
 have HC0_0 := Aside0.mk hc0_0
 clear hr0_0 hc0_0
 have HB := Aside0.mk (Below.refl w.heap.size w)
 have H : (if (l0_0.length : Int) = 0 then (some (9, (-1))) else (if (l0_0.length : Int) > 24 then (some (2, (-1))) else (qw_.l0 k ([] : List (S62)) l0_0 (l0_0.length : Int) 0 l0_0))) = some (r1, r2) := h
 clear h
 go_enter Tryd.func13, Tryd.ntmps13
 go_upto_if 12 with (first | ((with_reducible refine gate_dst (N := 1) rfl ?_); refine qE_ ?hg (N := 1) ?hd (cs := #[.slice A0_0 l0_0.length c0_0]) (t := 24) ?hr ?_; (case hd => rfl); (case hg => rfl); (case hr => first | (go_simp; done) | (go_simp; rfl)); intro gb113 hg w3 hbox hb; have BK113 := Aside0.mk (hbox); have GW113 := Aside0.mk ((by rw [hg]; exact (qv_ (by repeat (first | (with_reducible first | exact HB.out | apply qh_ | apply qc_ | apply qf_) | exact HB.out))) : w.heap.size ≤ gb113)); have GE113 := Aside0.mk ((by rw [hg]; exact (qv_ (by repeat (first | (with_reducible first | exact HB.out | apply qh_ | apply qc_ | apply qf_) | exact HB.out))) : w.heap.size ≤ gb113)); replace HB := Aside0.mk (qq_ (by repeat (first | (with_reducible first | exact HB.out | apply qh_ | apply qc_ | apply qf_) | exact HB.out)) hb); clear hb hbox hg) | ((with_reducible refine gate_dst (N := 2) rfl ?_); refine qE_ ?hg (N := 2) ?hd (cs := #[.int .i64 0, .int .i64 0]) (t := 28) ?hr ?_; (case hd => rfl); (case hg => rfl); (case hr => first | (go_simp; done) | (go_simp; rfl)); intro gb114 hg w4 hbox hb; have BK114 := Aside0.mk (hbox); have GW114 := Aside0.mk ((by rw [hg]; exact (qv_ (by repeat (first | (with_reducible first | exact HB.out | apply qh_ | apply qc_ | apply qf_ | refine qk_ ?_ (by assumption)) | exact HB.out))) : w.heap.size ≤ gb114)); have GE114 := Aside0.mk ((by rw [hg]; exact (qv_ (by repeat (first | (with_reducible first | exact HB.out | apply qh_ | apply qc_ | apply qf_ | refine qk_ ?_ (by assumption)) | exact HB.out))) : w.heap.size ≤ gb114)); replace HB := Aside0.mk (qq_ (by repeat (first | (with_reducible first | exact HB.out | apply qh_ | apply qc_ | apply qf_ | refine qk_ ?_ (by assumption)) | exact HB.out)) hb); have NB113_114 := Aside0.mk ((by rw [hg]; exact Nat.ne_of_lt (qB_ (g := gb113) (o := .cells #[.slice A0_0 l0_0.length c0_0] 24 (0, 0)) (by (with_reducible repeat first | apply qa_ | apply qb_ | apply blk_alloc); exact BK113.out)) : gb113 ≠ gb114)); have NB114_113 := Aside0.mk ((by rw [hg]; exact Nat.ne_of_gt (qB_ (g := gb113) (o := .cells #[.slice A0_0 l0_0.length c0_0] 24 (0, 0)) (by (with_reducible repeat first | apply qa_ | apply qb_ | apply blk_alloc); exact BK113.out)) : gb114 ≠ gb113)); replace BK113 := Aside0.mk (ql_ BK113 (by (with_reducible repeat first | apply qa_ | apply qb_ | apply blk_alloc); exact BK113.out) hb); clear hb hbox hg; have hnb5 := NB113_114.out; have hnc5 := NB114_113.out; have hcz6_0 := qg_ BK113 0 (.slice A0_0 l0_0.length c0_0) rfl; have hfz6_0 := qd_ BK113 0; have hcz7_0 := qg_ BK114 0 (.int .i64 0) rfl; have hcz7_1 := qg_ BK114 1 (.int .i64 0) rfl; have hfz7_0 := qd_ BK114 0; have hfz7_1 := qd_ BK114 1))
 by_cases c2 : (l0_0.length : Int) = 0
 ·rw [if_pos c2] at H
  have c2b0 : ((l0_0.length : Int) == 0) = true := beq_iff_eq.mpr c2
  (first | rw [c2b0] | (simp only [i64_w, i32_w]; rw [c2b0]) | skip)
  have c2b1 : ((l0_0.length : Int) != 0) = false := bne_eq_false_iff_eq.mpr c2
  clear c2
  simp only [Option.some.injEq, Prod.mk.injEq] at H
  obtain ⟨rfl, rfl⟩ := H
  go_wp2
  refine bodyPost_ret (results_cell_row rfl _ _ gb114 28 #[.int .i64 9, .int .i64 (-1)] (0, 0) _ rfl (by (with_reducible repeat first | apply qa_ | apply qb_ | apply blk_alloc); refine qA_ (cs := #[.int .i64 9, .int .i64 0]) ?_ 1 _ rfl; (with_reducible repeat first | apply qa_ | apply qb_ | apply blk_alloc); refine qA_ (cs := #[.int .i64 0, .int .i64 0]) ?_ 0 _ rfl; (with_reducible repeat first | apply qa_ | apply qb_ | apply blk_alloc); exact BK114.out) Tryd.underlying28 rfl (by kernel_rfl)) rfl ?_
  exact ⟨by first | rfl | (simp [*] <;> rfl), by repeat (first | (with_reducible first | exact HB.out | apply qh_ | apply qc_ | apply qf_ | refine qk_ ?_ (by assumption)) | exact HB.out)⟩
 ·rw [if_neg c2] at H
  have c2b0 : ((l0_0.length : Int) == 0) = false := beq_eq_false_iff_ne.mpr c2
  (first | rw [c2b0] | (simp only [i64_w, i32_w]; rw [c2b0]) | skip)
  have c2b1 : ((l0_0.length : Int) != 0) = true := bne_iff_ne.mpr c2
  have c2b2 : ¬ (l0_0 = []) := fun h_ => c2 (by rw [h_]; rfl)
  by_cases c8 : (l0_0.length : Int) > 24
  ·rw [if_pos c8] at H
   have c8b0 : decide (24 < (l0_0.length : Int)) = true := decide_eq_true c8
   have c8b1 : decide (24 < l0_0.length) = true := decide_eq_true (by omega)
   clear c8
   simp only [Option.some.injEq, Prod.mk.injEq] at H
   obtain ⟨rfl, rfl⟩ := H
   go_wp2
   refine bodyPost_ret (results_cell_row rfl _ _ gb114 28 #[.int .i64 2, .int .i64 (-1)] (0, 0) _ rfl (by (with_reducible repeat first | apply qa_ | apply qb_ | apply blk_alloc); refine qA_ (cs := #[.int .i64 2, .int .i64 0]) ?_ 1 _ rfl; (with_reducible repeat first | apply qa_ | apply qb_ | apply blk_alloc); refine qA_ (cs := #[.int .i64 0, .int .i64 0]) ?_ 0 _ rfl; (with_reducible repeat first | apply qa_ | apply qb_ | apply blk_alloc); exact BK114.out) Tryd.underlying28 rfl (by kernel_rfl)) rfl ?_
   exact ⟨by first | rfl | (simp [*] <;> rfl), by repeat (first | (with_reducible first | exact HB.out | apply qh_ | apply qc_ | apply qf_ | refine qk_ ?_ (by assumption)) | exact HB.out)⟩
  ·rw [if_neg c8] at H
   have c8b0 : decide (24 < (l0_0.length : Int)) = false := decide_eq_false c8
   have c8b1 : decide (24 < l0_0.length) = false := decide_eq_false (by omega)
   clear c8
   have H' := Aside0.mk H
   clear H
   go_wp2
   go_loopg [4, 23] k (fun kq v4 v23 w' => ∃ (x4_1 : List (S62)) (x23_1 : Int) (x115000_1 : Int) (x115001_1 : Int), v23 = .int .i64 x23_1 ∧ Aside0 (qw_.l0 kq x4_1 l0_0 (l0_0.length : Int) x23_1 l0_0 = some (r1, r2)) ∧ Aside0 (kq ≤ k) ∧ Aside0 (Kd.R k62 62 w' w.heap.size (fun _ => True) v4 x4_1) ∧ Aside0 (w'.heap[gb113]? = some (.cells #[(.slice A0_0 l0_0.length c0_0)] 24 (0, 0))) ∧ Aside0 (w'.heap[gb114]? = some (.cells #[.int .i64 x115000_1, .int .i64 x115001_1] 28 (0, 0))) ∧ Aside0 (Below w.heap.size w w'))
   case atStart => exact ⟨(([] : List (S62))), (0), (0), (0), (by first | rfl | (simp [*]; done)), H', ⟨Nat.le_refl _⟩, ⟨by first | exact Kd.R_nil _ _ _ _ _ | exact Kd.N_nil _ _ _ _ _ | exact Kd.V_nil _ _ _ _ _ | exact Kd.Q_nil _ _ _ _ _ | exact Kd.S_nil _ _ _ _ _⟩, ⟨by (with_reducible repeat first | apply qa_ | apply qb_ | apply blk_alloc); exact BK113.out⟩, ⟨by (with_reducible repeat first | apply qa_ | apply qb_ | apply blk_alloc); exact BK114.out⟩, ⟨by repeat (first | (with_reducible first | exact HB.out | apply qh_ | apply qc_ | apply qf_ | refine qk_ ?_ (by assumption)) | exact HB.out)⟩⟩
   case round =>
    clear H'
    obtain ⟨x4_1, x23_1, x115000_1, x115001_1, rfl, HA, HK1, HO_4, BK113, BK114, HB⟩ := hrel
    cases gk with
    | zero => exact absurd HA.out (by simp [qw_.l0])
    | succ k1 =>
     have H := HA.out
     clear HA
     simp only [qw_.l0] at H
     by_cases c18 : x23_1 < (l0_0.length : Int)
     ·rw [if_pos c18] at H
      have c18b0 : decide (x23_1 < (l0_0.length : Int)) = true := decide_eq_true c18
      clear c18
      by_cases c19 : 0 ≤ x23_1
      ·rw [if_pos c19] at H
       have c19b0 : decide (0 ≤ x23_1) = true := decide_eq_true c19
       clear c19
       by_cases c20 : x23_1 < (l0_0.length : Int)
       ·rw [if_pos c20] at H
        have c20b0 : decide (x23_1 < (l0_0.length : Int)) = true := decide_eq_true c20
        clear c20
        replace H := Option.bind_eq_some_iff.mp H
        obtain ⟨t117, A210, H⟩ := H
        replace H : (if t117 = 0 then ((policy_shapeOf.f ((qj_ l0_0 x23_1).f0) ((qj_ l0_0 x23_1).f1) ((qj_ l0_0 x23_1).f2) ((qj_ l0_0 x23_1).f3) x4_1).bind fun bt118 => (if x4_1.length < 8796093022208 then (qw_.l0 k1 (x4_1 ++ [(⟨bt118.1, bt118.2⟩ : S62)]) l0_0 (l0_0.length : Int) (wrap64 (x23_1 + 1)) l0_0) else (none))) else (some (t117, x23_1))) = some (r1, r2) := H
        have A21 := Aside0.mk A210
        clear A210
        by_cases c22 : t117 = 0
        ·rw [if_pos c22] at H
         have c22b0 : (t117 == 0) = true := beq_iff_eq.mpr c22
         have c22b1 : (t117 != 0) = false := bne_eq_false_iff_eq.mpr c22
         clear c22
         replace H := Option.bind_eq_some_iff.mp H
         obtain ⟨⟨t118, t119⟩, A230, H⟩ := H
         replace H : (if x4_1.length < 8796093022208 then (qw_.l0 k1 (x4_1 ++ [(⟨t118, t119⟩ : S62)]) l0_0 (l0_0.length : Int) (wrap64 (x23_1 + 1)) l0_0) else (none)) = some (r1, r2) := H
         have A23 := Aside0.mk A230
         clear A230
         by_cases c24 : x4_1.length < 8796093022208
         ·rw [if_pos c24] at H
          have LMc24 := Aside0.mk c24
          clear c24
          obtain ⟨y120, hy120⟩ : ∃ y_ : List (S62), y_ = (x4_1 ++ [(⟨t118, t119⟩ : S62)]) := ⟨_, rfl⟩
          replace H : (qw_.l0 k1 y120 l0_0 (l0_0.length : Int) (wrap64 (x23_1 + 1)) l0_0) = some (r1, r2) := by first | (rw [hy120]; with_reducible exact H) | (have H2_ := (Option.bind_some _ _).symm.trans H; rw [hy120]; with_reducible exact H2_) | (have H2_ := (Option.bind_some _ _).symm.trans H; with_reducible exact H2_) | with_reducible exact H | (rw [hy120]; exact H) | exact H
          have Ny120 := Aside0.mk hy120
          clear hy120
          have H' := Aside0.mk H
          clear H
          have p115 : 0 ≤ (x23_1 : Int) := of_decide_eq_true (by assumption)
          have q115 : x23_1 < (l0_0.length : Int) := of_decide_eq_true (by assumption)
          obtain ⟨ad115, e115, hx115_0, hx115_1, hx115_2, hx115_3⟩ := at_T47 HR0_0.out x23_1 p115 q115
          cases e115
          replace hx115_0 := (HB.out.cell (World.block_lt_of_cell? w _ hx115_0)).trans hx115_0
          replace hx115_1 := (HB.out.cell (World.block_lt_of_cell? w _ hx115_1)).trans hx115_1
          replace hx115_2 := (HB.out.cell (World.block_lt_of_cell? w _ hx115_2)).trans hx115_2
          replace hx115_3 := (HB.out.cell (World.block_lt_of_cell? w _ hx115_3)).trans hx115_3
          replace p115 := eq_true p115
          replace q115 := eq_true q115
          go_wp2_with (first | ((with_reducible refine gate_dst (N := 6) rfl ?_); refine qE_ ?hg (N := 6) ?hd (cs := #[.int .i64 0, .int .i64 0, .int .i64 0, .int .i64 0]) (t := 47) ?hr ?_; (case hd => rfl); (case hg => rfl); (case hr => first | (go_simp; done) | (go_simp; rfl)); intro gb116 hg w25 hbox hb; replace HO_4 := Aside0.mk (Kd.R_below (by (with_reducible repeat first | apply Kd.R_alloc | apply Kd.R_drewN | apply Kd.R_drew); exact HO_4.out) hb); have BK116 := Aside0.mk (hbox); have GW116 := Aside0.mk ((by rw [hg]; exact (qv_ (by repeat (first | (with_reducible first | exact HB.out | apply qh_ | apply qc_ | apply qf_ | refine qk_ ?_ (by assumption)) | exact HB.out))) : w.heap.size ≤ gb116)); have GE116 := Aside0.mk ((by rw [hg]; exact (qv_ (by repeat (first | (with_reducible first | exact HB.out | apply qh_ | apply qc_ | apply qf_ | refine qk_ ?_ (by assumption)) | exact HB.out))) : w.heap.size ≤ gb116)); replace HB := Aside0.mk (qq_ (by repeat (first | (with_reducible first | exact HB.out | apply qh_ | apply qc_ | apply qf_ | refine qk_ ?_ (by assumption)) | exact HB.out)) hb); have NB113_116 := Aside0.mk ((by rw [hg]; exact Nat.ne_of_lt (qB_ (g := gb113) (o := .cells #[.slice (some ad115) l0_0.length c0_0] 24 (0, 0)) (by (with_reducible repeat first | apply qa_ | apply qb_ | apply blk_alloc); exact BK113.out)) : gb113 ≠ gb116)); have NB116_113 := Aside0.mk ((by rw [hg]; exact Nat.ne_of_gt (qB_ (g := gb113) (o := .cells #[.slice (some ad115) l0_0.length c0_0] 24 (0, 0)) (by (with_reducible repeat first | apply qa_ | apply qb_ | apply blk_alloc); exact BK113.out)) : gb116 ≠ gb113)); replace BK113 := Aside0.mk (ql_ BK113 (by (with_reducible repeat first | apply qa_ | apply qb_ | apply blk_alloc); exact BK113.out) hb); have NB114_116 := Aside0.mk ((by rw [hg]; exact Nat.ne_of_lt (qB_ (g := gb114) (o := .cells #[.int .i64 x115000_1, .int .i64 x115001_1] 28 (0, 0)) (by (with_reducible repeat first | apply qa_ | apply qb_ | apply blk_alloc); exact BK114.out)) : gb114 ≠ gb116)); have NB116_114 := Aside0.mk ((by rw [hg]; exact Nat.ne_of_gt (qB_ (g := gb114) (o := .cells #[.int .i64 x115000_1, .int .i64 x115001_1] 28 (0, 0)) (by (with_reducible repeat first | apply qa_ | apply qb_ | apply blk_alloc); exact BK114.out)) : gb116 ≠ gb114)); replace BK114 := Aside0.mk (ql_ BK114 (by (with_reducible repeat first | apply qa_ | apply qb_ | apply blk_alloc); exact BK114.out) hb); clear hb hbox hg; have hnb26 := NB116_113.out; have hnc26 := NB113_116.out; have hnb27 := NB116_114.out; have hnc27 := NB114_116.out; have hcz28_0 := qg_ BK116 0 (.int .i64 0) rfl; have hcz28_1 := qg_ BK116 1 (.int .i64 0) rfl; have hcz28_2 := qg_ BK116 2 (.int .i64 0) rfl; have hcz28_3 := qg_ BK116 3 (.int .i64 0) rfl; have hfz28_0 := qd_ BK116 0; have hfz28_1 := qd_ BK116 1; have hfz28_2 := qd_ BK116 2; have hfz28_3 := qd_ BK116 3; obtain ⟨Ao29, co29, eo29⟩ := Kd.R_slice HO_4.out; subst eo29) | ((with_reducible refine qs_ (f := 28) rfl ?_); refine goesL_ (some 30) rfl rfl Tryd.func28 (by kernel_rfl) rfl #[.agg #[.int .i64 ((qj_ l0_0 x23_1).f0), .int .i64 ((qj_ l0_0 x23_1).f1), .int .i64 ((qj_ l0_0 x23_1).f2), .int .i64 ((qj_ l0_0 x23_1).f3)], .slice Ao29 x4_1.length co29] rfl (by (try simp only [List.map_toArray]); first | done | rfl) ?_; (with_reducible refine (qu_.calls k1 ((qj_ l0_0 x23_1).f0) ((qj_ l0_0 x23_1).f1) ((qj_ l0_0 x23_1).f2) ((qj_ l0_0 x23_1).f3) _ _ x4_1 t117 _ ?side1 ?side2 A21.out).mono ?_); (case side1 => refine (Kd.R_reads' (e := 62) (base := w.heap.size) (ok := fun k_ => True) (n := x4_1.length) (c := co29) ?_).2.2; exact (by (with_reducible repeat first | apply Kd.R_alloc | apply Kd.R_drewN | apply Kd.R_drew); exact (Kd.R_mono (Kd.R_far (p := ⟨gb116, 3, none⟩) (Kd.R_far (p := ⟨gb116, 2, none⟩) (Kd.R_far (p := ⟨gb116, 1, none⟩) (Kd.R_far (p := ⟨gb116, 0, none⟩) (Kd.R_types HO_4.out BK116.out (by decide)) (fun _ hk => hk.2) (.int .i64 ((qj_ l0_0 x23_1).f0))) (fun _ hk => hk.2) (.int .i64 ((qj_ l0_0 x23_1).f1))) (fun _ hk => hk.2) (.int .i64 ((qj_ l0_0 x23_1).f2))) (fun _ hk => hk.2) (.int .i64 ((qj_ l0_0 x23_1).f3))) (fun _ h_ => h_.1)))); (case side2 => exact (Kd.R_reads' HO_4.out).2.1); rintro e w30 ⟨rfl, hb⟩; refine ⟨_, rfl, ?_⟩; replace HO_4 := Aside0.mk (Kd.R_below (by (with_reducible repeat first | apply Kd.R_alloc | apply Kd.R_drewN | apply Kd.R_drew); exact (Kd.R_mono (Kd.R_far (p := ⟨gb116, 3, none⟩) (Kd.R_far (p := ⟨gb116, 2, none⟩) (Kd.R_far (p := ⟨gb116, 1, none⟩) (Kd.R_far (p := ⟨gb116, 0, none⟩) (Kd.R_types HO_4.out BK116.out (by decide)) (fun _ hk => hk.2) (.int .i64 ((qj_ l0_0 x23_1).f0))) (fun _ hk => hk.2) (.int .i64 ((qj_ l0_0 x23_1).f1))) (fun _ hk => hk.2) (.int .i64 ((qj_ l0_0 x23_1).f2))) (fun _ hk => hk.2) (.int .i64 ((qj_ l0_0 x23_1).f3))) (fun _ h_ => h_.1))) hb); replace BK113 := Aside0.mk (ql_ BK113 (by (with_reducible repeat first | apply qa_ | apply qb_ | apply blk_alloc); refine qn_ ?_ NB113_116.out _; (with_reducible repeat first | apply qa_ | apply qb_ | apply blk_alloc); refine qn_ ?_ NB113_116.out _; (with_reducible repeat first | apply qa_ | apply qb_ | apply blk_alloc); refine qn_ ?_ NB113_116.out _; (with_reducible repeat first | apply qa_ | apply qb_ | apply blk_alloc); refine qn_ ?_ NB113_116.out _; (with_reducible repeat first | apply qa_ | apply qb_ | apply blk_alloc); exact BK113.out) hb); replace BK114 := Aside0.mk (ql_ BK114 (by (with_reducible repeat first | apply qa_ | apply qb_ | apply blk_alloc); refine qn_ ?_ NB114_116.out _; (with_reducible repeat first | apply qa_ | apply qb_ | apply blk_alloc); refine qn_ ?_ NB114_116.out _; (with_reducible repeat first | apply qa_ | apply qb_ | apply blk_alloc); refine qn_ ?_ NB114_116.out _; (with_reducible repeat first | apply qa_ | apply qb_ | apply blk_alloc); refine qn_ ?_ NB114_116.out _; (with_reducible repeat first | apply qa_ | apply qb_ | apply blk_alloc); exact BK114.out) hb); replace BK116 := Aside0.mk (qy_ (g := gb116) (o := .cells #[.int .i64 ((qj_ l0_0 x23_1).f0), .int .i64 ((qj_ l0_0 x23_1).f1), .int .i64 ((qj_ l0_0 x23_1).f2), .int .i64 ((qj_ l0_0 x23_1).f3)] 47 (0, 0)) (by (with_reducible repeat first | apply qa_ | apply qb_ | apply blk_alloc); refine qA_ (cs := #[.int .i64 ((qj_ l0_0 x23_1).f0), .int .i64 ((qj_ l0_0 x23_1).f1), .int .i64 ((qj_ l0_0 x23_1).f2), .int .i64 0]) ?_ 3 _ rfl; (with_reducible repeat first | apply qa_ | apply qb_ | apply blk_alloc); refine qA_ (cs := #[.int .i64 ((qj_ l0_0 x23_1).f0), .int .i64 ((qj_ l0_0 x23_1).f1), .int .i64 0, .int .i64 0]) ?_ 2 _ rfl; (with_reducible repeat first | apply qa_ | apply qb_ | apply blk_alloc); refine qA_ (cs := #[.int .i64 ((qj_ l0_0 x23_1).f0), .int .i64 0, .int .i64 0, .int .i64 0]) ?_ 1 _ rfl; (with_reducible repeat first | apply qa_ | apply qb_ | apply blk_alloc); refine qA_ (cs := #[.int .i64 0, .int .i64 0, .int .i64 0, .int .i64 0]) ?_ 0 _ rfl; (with_reducible repeat first | apply qa_ | apply qb_ | apply blk_alloc); exact BK116.out) hb); replace HB := Aside0.mk (qq_ (by repeat (first | (with_reducible first | exact HB.out | apply qh_ | apply qc_ | apply qf_ | refine qk_ ?_ (by assumption)) | exact HB.out)) hb); (try clear hb); have hcz31_0 := qg_ BK116 0 (.int .i64 ((qj_ l0_0 x23_1).f0)) rfl; have hcz31_1 := qg_ BK116 1 (.int .i64 ((qj_ l0_0 x23_1).f1)) rfl; have hcz31_2 := qg_ BK116 2 (.int .i64 ((qj_ l0_0 x23_1).f2)) rfl; have hcz31_3 := qg_ BK116 3 (.int .i64 ((qj_ l0_0 x23_1).f3)) rfl; have hfz31_0 := qd_ BK116 0; have hfz31_1 := qd_ BK116 1; have hfz31_2 := qd_ BK116 2; have hfz31_3 := qd_ BK116 3) | ((with_reducible refine qs_ (f := 29) rfl ?_); refine goesL_ (some 39) rfl rfl Tryd.func29 (by kernel_rfl) rfl #[.agg #[.int .i64 ((qj_ l0_0 x23_1).f0), .int .i64 ((qj_ l0_0 x23_1).f1), .int .i64 ((qj_ l0_0 x23_1).f2), .int .i64 ((qj_ l0_0 x23_1).f3)], .slice Ao29 x4_1.length co29] rfl (by (try simp only [List.map_toArray]); first | done | rfl) ?_; (with_reducible refine (policy_shapeOf.calls ((qj_ l0_0 x23_1).f0) ((qj_ l0_0 x23_1).f1) ((qj_ l0_0 x23_1).f2) ((qj_ l0_0 x23_1).f3) _ _ x4_1 t118 t119 _ ?side1 ?side2 A23.out).mono ?_); (case side1 => repeat (first | exact (Kd.R_reads' HO_4.out).2.2 | (with_reducible refine Kd.C_alloc ?_ _) | (with_reducible refine Kd.C_drewN ?_ _) | (with_reducible refine Kd.C_drew ?_))); (case side2 => exact (Kd.R_reads' HO_4.out).2.1); rintro e w32 ⟨rfl, hb⟩; refine ⟨_, rfl, ?_⟩; replace HO_4 := Aside0.mk (Kd.R_below (by (with_reducible repeat first | apply Kd.R_alloc | apply Kd.R_drewN | apply Kd.R_drew); exact HO_4.out) hb); replace BK113 := Aside0.mk (ql_ BK113 (by (with_reducible repeat first | apply qa_ | apply qb_ | apply blk_alloc); exact BK113.out) hb); replace BK114 := Aside0.mk (ql_ BK114 (by (with_reducible repeat first | apply qa_ | apply qb_ | apply blk_alloc); exact BK114.out) hb); replace BK116 := Aside0.mk (ql_ BK116 (by (with_reducible repeat first | apply qa_ | apply qb_ | apply blk_alloc); exact BK116.out) hb); replace HB := Aside0.mk (qq_ (by repeat (first | (with_reducible first | exact HB.out | apply qh_ | apply qc_ | apply qf_ | refine qk_ ?_ (by assumption)) | exact HB.out)) hb); (try clear hb)) | ((with_reducible refine gate_builtin (b := .append) (xs := #[.tmp 36, .tmp 40]) rfl ?_); at_builtin; refine Kd.R_append k62 (w0 := w) w.heap.size rfl (.tmp 36) (.tmp 40) 59 62 (.agg #[(.int .i64 0), (.int .i64 0)]) 16 rfl Tryd.underlying59 info62 rfl (by decide) (by omega) (.slice Ao29 x4_1.length co29) x4_1 (⟨t118, t119⟩ : S62) [.int .i64 t118, .int .i64 t119] (fun _ => True) (fun _ => False) rfl rfl ?aP (fun _ hk => hk.elim) ?aF ?aO ?aB ?aS ?aL ?_; (case aP => exact k62_mkM _ _ _ (⟨t118, t119⟩ : S62)); (case aB => exact (by repeat (first | (with_reducible first | exact HB.out | apply qh_ | apply qc_ | apply qf_ | refine qk_ ?_ (by assumption)) | exact HB.out))); (case aF => exact (fun _ _ => trivial)); (case aO => exact (by (with_reducible repeat first | apply Kd.R_alloc | apply Kd.R_drewN | apply Kd.R_drew); exact HO_4.out)); (case aS => exact (qv_ (by repeat (first | (with_reducible first | exact HB.out | apply qh_ | apply qc_ | apply qf_ | refine qk_ ?_ (by assumption)) | exact HB.out)))); (case aL => have := LMc24.out; omega); intro v121 w33 ho hb hg hat; rw [← Ny120.out] at ho; replace BK113 := Aside0.mk (blk_grownA BK113 (by (with_reducible repeat first | apply qa_ | apply qb_ | apply blk_alloc); exact BK113.out) hg (Kd.R_ne HO_4.out BK113.out (by decide))); replace BK114 := Aside0.mk (blk_grownA BK114 (by (with_reducible repeat first | apply qa_ | apply qb_ | apply blk_alloc); exact BK114.out) hg (Kd.R_ne HO_4.out BK114.out (by decide))); replace BK116 := Aside0.mk (blk_grownA BK116 (by (with_reducible repeat first | apply qa_ | apply qb_ | apply blk_alloc); exact BK116.out) hg (Kd.R_ne HO_4.out BK116.out (by decide))); replace HB := Aside0.mk (hb); have HO122 := Aside0.mk (ho); clear HO_4; clear ho hb hg hat))
          go_roundg k1
          case measure => have := HK1.out; omega
          case rel => exact ⟨(y120), (wrap64 (x23_1 + 1)), (x115000_1), (x115001_1), (by first | rfl | (simp [*]; done)), H', ⟨by have := HK1.out; omega⟩, ⟨by (with_reducible repeat first | apply Kd.R_alloc | apply Kd.R_drewN | apply Kd.R_drew); exact HO122.out⟩, ⟨by (with_reducible repeat first | apply qa_ | apply qb_ | apply blk_alloc); exact BK113.out⟩, ⟨by (with_reducible repeat first | apply qa_ | apply qb_ | apply blk_alloc); exact BK114.out⟩, ⟨by repeat (first | (with_reducible first | exact HB.out | apply qh_ | apply qc_ | apply qf_ | refine qk_ ?_ (by assumption)) | exact HB.out)⟩⟩
         ·rw [if_neg c24] at H
          exact absurd H (by simp)
        ·rw [if_neg c22] at H
         have c22b0 : (t117 == 0) = false := beq_eq_false_iff_ne.mpr c22
         have c22b1 : (t117 != 0) = true := bne_iff_ne.mpr c22
         simp only [Option.some.injEq, Prod.mk.injEq] at H
         obtain ⟨rfl, rfl⟩ := H
         have p115 : 0 ≤ (x23_1 : Int) := of_decide_eq_true (by assumption)
         have q115 : x23_1 < (l0_0.length : Int) := of_decide_eq_true (by assumption)
         obtain ⟨ad115, e115, hx115_0, hx115_1, hx115_2, hx115_3⟩ := at_T47 HR0_0.out x23_1 p115 q115
         cases e115
         replace hx115_0 := (HB.out.cell (World.block_lt_of_cell? w _ hx115_0)).trans hx115_0
         replace hx115_1 := (HB.out.cell (World.block_lt_of_cell? w _ hx115_1)).trans hx115_1
         replace hx115_2 := (HB.out.cell (World.block_lt_of_cell? w _ hx115_2)).trans hx115_2
         replace hx115_3 := (HB.out.cell (World.block_lt_of_cell? w _ hx115_3)).trans hx115_3
         replace p115 := eq_true p115
         replace q115 := eq_true q115
         go_wp2_with (first | ((with_reducible refine gate_dst (N := 6) rfl ?_); refine qE_ ?hg (N := 6) ?hd (cs := #[.int .i64 0, .int .i64 0, .int .i64 0, .int .i64 0]) (t := 47) ?hr ?_; (case hd => rfl); (case hg => rfl); (case hr => first | (go_simp; done) | (go_simp; rfl)); intro gb116 hg w34 hbox hb; replace HO_4 := Aside0.mk (Kd.R_below (by (with_reducible repeat first | apply Kd.R_alloc | apply Kd.R_drewN | apply Kd.R_drew); exact HO_4.out) hb); have BK116 := Aside0.mk (hbox); have GW116 := Aside0.mk ((by rw [hg]; exact (qv_ (by repeat (first | (with_reducible first | exact HB.out | apply qh_ | apply qc_ | apply qf_ | refine qk_ ?_ (by assumption)) | exact HB.out))) : w.heap.size ≤ gb116)); have GE116 := Aside0.mk ((by rw [hg]; exact (qv_ (by repeat (first | (with_reducible first | exact HB.out | apply qh_ | apply qc_ | apply qf_ | refine qk_ ?_ (by assumption)) | exact HB.out))) : w.heap.size ≤ gb116)); replace HB := Aside0.mk (qq_ (by repeat (first | (with_reducible first | exact HB.out | apply qh_ | apply qc_ | apply qf_ | refine qk_ ?_ (by assumption)) | exact HB.out)) hb); have NB113_116 := Aside0.mk ((by rw [hg]; exact Nat.ne_of_lt (qB_ (g := gb113) (o := .cells #[.slice (some ad115) l0_0.length c0_0] 24 (0, 0)) (by (with_reducible repeat first | apply qa_ | apply qb_ | apply blk_alloc); exact BK113.out)) : gb113 ≠ gb116)); have NB116_113 := Aside0.mk ((by rw [hg]; exact Nat.ne_of_gt (qB_ (g := gb113) (o := .cells #[.slice (some ad115) l0_0.length c0_0] 24 (0, 0)) (by (with_reducible repeat first | apply qa_ | apply qb_ | apply blk_alloc); exact BK113.out)) : gb116 ≠ gb113)); replace BK113 := Aside0.mk (ql_ BK113 (by (with_reducible repeat first | apply qa_ | apply qb_ | apply blk_alloc); exact BK113.out) hb); have NB114_116 := Aside0.mk ((by rw [hg]; exact Nat.ne_of_lt (qB_ (g := gb114) (o := .cells #[.int .i64 x115000_1, .int .i64 x115001_1] 28 (0, 0)) (by (with_reducible repeat first | apply qa_ | apply qb_ | apply blk_alloc); exact BK114.out)) : gb114 ≠ gb116)); have NB116_114 := Aside0.mk ((by rw [hg]; exact Nat.ne_of_gt (qB_ (g := gb114) (o := .cells #[.int .i64 x115000_1, .int .i64 x115001_1] 28 (0, 0)) (by (with_reducible repeat first | apply qa_ | apply qb_ | apply blk_alloc); exact BK114.out)) : gb116 ≠ gb114)); replace BK114 := Aside0.mk (ql_ BK114 (by (with_reducible repeat first | apply qa_ | apply qb_ | apply blk_alloc); exact BK114.out) hb); clear hb hbox hg; have hnb35 := NB116_113.out; have hnc35 := NB113_116.out; have hnb36 := NB116_114.out; have hnc36 := NB114_116.out; have hcz37_0 := qg_ BK116 0 (.int .i64 0) rfl; have hcz37_1 := qg_ BK116 1 (.int .i64 0) rfl; have hcz37_2 := qg_ BK116 2 (.int .i64 0) rfl; have hcz37_3 := qg_ BK116 3 (.int .i64 0) rfl; have hfz37_0 := qd_ BK116 0; have hfz37_1 := qd_ BK116 1; have hfz37_2 := qd_ BK116 2; have hfz37_3 := qd_ BK116 3; obtain ⟨Ao38, co38, eo38⟩ := Kd.R_slice HO_4.out; subst eo38) | ((with_reducible refine qs_ (f := 28) rfl ?_); refine goesL_ (some 30) rfl rfl Tryd.func28 (by kernel_rfl) rfl #[.agg #[.int .i64 ((qj_ l0_0 x23_1).f0), .int .i64 ((qj_ l0_0 x23_1).f1), .int .i64 ((qj_ l0_0 x23_1).f2), .int .i64 ((qj_ l0_0 x23_1).f3)], .slice Ao38 x4_1.length co38] rfl (by (try simp only [List.map_toArray]); first | done | rfl) ?_; (with_reducible refine (qu_.calls k1 ((qj_ l0_0 x23_1).f0) ((qj_ l0_0 x23_1).f1) ((qj_ l0_0 x23_1).f2) ((qj_ l0_0 x23_1).f3) _ _ x4_1 t117 _ ?side1 ?side2 A21.out).mono ?_); (case side1 => refine (Kd.R_reads' (e := 62) (base := w.heap.size) (ok := fun k_ => True) (n := x4_1.length) (c := co38) ?_).2.2; exact (by (with_reducible repeat first | apply Kd.R_alloc | apply Kd.R_drewN | apply Kd.R_drew); exact (Kd.R_mono (Kd.R_far (p := ⟨gb116, 3, none⟩) (Kd.R_far (p := ⟨gb116, 2, none⟩) (Kd.R_far (p := ⟨gb116, 1, none⟩) (Kd.R_far (p := ⟨gb116, 0, none⟩) (Kd.R_types HO_4.out BK116.out (by decide)) (fun _ hk => hk.2) (.int .i64 ((qj_ l0_0 x23_1).f0))) (fun _ hk => hk.2) (.int .i64 ((qj_ l0_0 x23_1).f1))) (fun _ hk => hk.2) (.int .i64 ((qj_ l0_0 x23_1).f2))) (fun _ hk => hk.2) (.int .i64 ((qj_ l0_0 x23_1).f3))) (fun _ h_ => h_.1)))); (case side2 => exact (Kd.R_reads' HO_4.out).2.1); rintro e w39 ⟨rfl, hb⟩; refine ⟨_, rfl, ?_⟩; replace HO_4 := Aside0.mk (Kd.R_below (by (with_reducible repeat first | apply Kd.R_alloc | apply Kd.R_drewN | apply Kd.R_drew); exact (Kd.R_mono (Kd.R_far (p := ⟨gb116, 3, none⟩) (Kd.R_far (p := ⟨gb116, 2, none⟩) (Kd.R_far (p := ⟨gb116, 1, none⟩) (Kd.R_far (p := ⟨gb116, 0, none⟩) (Kd.R_types HO_4.out BK116.out (by decide)) (fun _ hk => hk.2) (.int .i64 ((qj_ l0_0 x23_1).f0))) (fun _ hk => hk.2) (.int .i64 ((qj_ l0_0 x23_1).f1))) (fun _ hk => hk.2) (.int .i64 ((qj_ l0_0 x23_1).f2))) (fun _ hk => hk.2) (.int .i64 ((qj_ l0_0 x23_1).f3))) (fun _ h_ => h_.1))) hb); replace BK113 := Aside0.mk (ql_ BK113 (by (with_reducible repeat first | apply qa_ | apply qb_ | apply blk_alloc); refine qn_ ?_ NB113_116.out _; (with_reducible repeat first | apply qa_ | apply qb_ | apply blk_alloc); refine qn_ ?_ NB113_116.out _; (with_reducible repeat first | apply qa_ | apply qb_ | apply blk_alloc); refine qn_ ?_ NB113_116.out _; (with_reducible repeat first | apply qa_ | apply qb_ | apply blk_alloc); refine qn_ ?_ NB113_116.out _; (with_reducible repeat first | apply qa_ | apply qb_ | apply blk_alloc); exact BK113.out) hb); replace BK114 := Aside0.mk (ql_ BK114 (by (with_reducible repeat first | apply qa_ | apply qb_ | apply blk_alloc); refine qn_ ?_ NB114_116.out _; (with_reducible repeat first | apply qa_ | apply qb_ | apply blk_alloc); refine qn_ ?_ NB114_116.out _; (with_reducible repeat first | apply qa_ | apply qb_ | apply blk_alloc); refine qn_ ?_ NB114_116.out _; (with_reducible repeat first | apply qa_ | apply qb_ | apply blk_alloc); refine qn_ ?_ NB114_116.out _; (with_reducible repeat first | apply qa_ | apply qb_ | apply blk_alloc); exact BK114.out) hb); replace BK116 := Aside0.mk (qy_ (g := gb116) (o := .cells #[.int .i64 ((qj_ l0_0 x23_1).f0), .int .i64 ((qj_ l0_0 x23_1).f1), .int .i64 ((qj_ l0_0 x23_1).f2), .int .i64 ((qj_ l0_0 x23_1).f3)] 47 (0, 0)) (by (with_reducible repeat first | apply qa_ | apply qb_ | apply blk_alloc); refine qA_ (cs := #[.int .i64 ((qj_ l0_0 x23_1).f0), .int .i64 ((qj_ l0_0 x23_1).f1), .int .i64 ((qj_ l0_0 x23_1).f2), .int .i64 0]) ?_ 3 _ rfl; (with_reducible repeat first | apply qa_ | apply qb_ | apply blk_alloc); refine qA_ (cs := #[.int .i64 ((qj_ l0_0 x23_1).f0), .int .i64 ((qj_ l0_0 x23_1).f1), .int .i64 0, .int .i64 0]) ?_ 2 _ rfl; (with_reducible repeat first | apply qa_ | apply qb_ | apply blk_alloc); refine qA_ (cs := #[.int .i64 ((qj_ l0_0 x23_1).f0), .int .i64 0, .int .i64 0, .int .i64 0]) ?_ 1 _ rfl; (with_reducible repeat first | apply qa_ | apply qb_ | apply blk_alloc); refine qA_ (cs := #[.int .i64 0, .int .i64 0, .int .i64 0, .int .i64 0]) ?_ 0 _ rfl; (with_reducible repeat first | apply qa_ | apply qb_ | apply blk_alloc); exact BK116.out) hb); replace HB := Aside0.mk (qq_ (by repeat (first | (with_reducible first | exact HB.out | apply qh_ | apply qc_ | apply qf_ | refine qk_ ?_ (by assumption)) | exact HB.out)) hb); (try clear hb); have hnb40 := NB114_113.out; have hnc40 := NB113_114.out; have hcz41_0 := qg_ BK114 0 (.int .i64 x115000_1) rfl; have hcz41_1 := qg_ BK114 1 (.int .i64 x115001_1) rfl; have hfz41_0 := qd_ BK114 0; have hfz41_1 := qd_ BK114 1))
         refine bodyPost_ret (results_cell_row rfl _ _ gb114 28 #[.int .i64 t117, .int .i64 x23_1] (0, 0) _ rfl (by (with_reducible repeat first | apply qa_ | apply qb_ | apply blk_alloc); refine qA_ (cs := #[.int .i64 t117, .int .i64 x115001_1]) ?_ 1 _ rfl; (with_reducible repeat first | apply qa_ | apply qb_ | apply blk_alloc); refine qA_ (cs := #[.int .i64 x115000_1, .int .i64 x115001_1]) ?_ 0 _ rfl; (with_reducible repeat first | apply qa_ | apply qb_ | apply blk_alloc); exact BK114.out) Tryd.underlying28 rfl (by kernel_rfl)) rfl ?_
         exact ⟨by first | rfl | (simp [*] <;> rfl), by repeat (first | (with_reducible first | exact HB.out | apply qh_ | apply qc_ | apply qf_ | refine qk_ ?_ (by assumption)) | exact HB.out)⟩
       ·rw [if_neg c20] at H
        exact absurd H (by simp)
      ·rw [if_neg c19] at H
       exact absurd H (by simp)
     ·rw [if_neg c18] at H
      have c18b0 : decide (x23_1 < (l0_0.length : Int)) = false := decide_eq_false c18
      clear c18
      obtain ⟨ji42, hji42⟩ : ∃ j_ : Int, (wrap64 ((x4_1.length : Int) - 1)) = j_ := ⟨_, rfl⟩
      replace H : (if 0 ≤ (ji42) then (if (ji42) < (x4_1.length : Int) then (if ((rd_T62 x4_1 (ji42)).f0) = (l0_0.length : Int) then (if ((rd_T62 x4_1 (ji42)).f1) > 12 then (some (10, (-1))) else (some (0, 0))) else (some (5, (-1)))) else (none)) else (none)) = some (r1, r2) := by first | (rw [hji42] at H; exact H) | (simp only [hji42] at H ⊢; exact H)
      have hji42w : (IntKind.i64.wrap ((x4_1.length : Int) - 1)) = ji42 := (i64_w _).trans hji42
      by_cases c43 : 0 ≤ (ji42)
      ·rw [if_pos c43] at H
       have c43b0 : decide (0 ≤ (ji42)) = true := decide_eq_true c43
       clear c43
       by_cases c44 : (ji42) < (x4_1.length : Int)
       ·rw [if_pos c44] at H
        have c44b0 : decide ((ji42) < (x4_1.length : Int)) = true := decide_eq_true c44
        clear c44
        by_cases c45 : ((rd_T62 x4_1 (ji42)).f0) = (l0_0.length : Int)
        ·rw [if_pos c45] at H
         have c45b0 : (((rd_T62 x4_1 (ji42)).f0) == (l0_0.length : Int)) = true := beq_iff_eq.mpr c45
         have c45b1 : (((rd_T62 x4_1 (ji42)).f0) != (l0_0.length : Int)) = false := bne_eq_false_iff_eq.mpr c45
         clear c45
         by_cases c46 : ((rd_T62 x4_1 (ji42)).f1) > 12
         ·rw [if_pos c46] at H
          have c46b0 : decide (12 < ((rd_T62 x4_1 (ji42)).f1)) = true := decide_eq_true c46
          clear c46
          simp only [Option.some.injEq, Prod.mk.injEq] at H
          obtain ⟨rfl, rfl⟩ := H
          obtain ⟨Ao47, co47, eo47⟩ := Kd.R_slice HO_4.out
          subst eo47
          have p123 : 0 ≤ ((ji42) : Int) := of_decide_eq_true (by assumption)
          have q123 : (ji42) < (x4_1.length : Int) := of_decide_eq_true (by assumption)
          obtain ⟨ad123, e123, hx123_0, hx123_1⟩ := at_T62 (Kd.R_reads' HO_4.out).2.2 (ji42) p123 q123
          cases e123
          replace p123 := eq_true p123
          replace q123 := eq_true q123
          go_wp2_with (first | ((with_reducible refine gate_dst (N := 8) rfl ?_); refine qE_ ?hg (N := 8) ?hd (cs := #[.int .i64 0, .int .i64 0]) (t := 62) ?hr ?_; (case hd => rfl); (case hg => rfl); (case hr => first | (go_simp; done) | (go_simp; rfl)); intro gb124 hg w48 hbox hb; replace HO_4 := Aside0.mk (Kd.R_below (Kd.R_elderB (by (with_reducible repeat first | apply Kd.R_alloc | apply Kd.R_drewN | apply Kd.R_drew); exact HO_4.out) gb124 (Nat.le_of_eq hg.symm)) hb); have BK124 := Aside0.mk (hbox); have GW124 := Aside0.mk ((by rw [hg]; exact (qv_ (by repeat (first | (with_reducible first | exact HB.out | apply qh_ | apply qc_ | apply qf_ | refine qk_ ?_ (by assumption)) | exact HB.out))) : w.heap.size ≤ gb124)); have GE124 := Aside0.mk ((by rw [hg]; exact (qv_ (by repeat (first | (with_reducible first | exact HB.out | apply qh_ | apply qc_ | apply qf_ | refine qk_ ?_ (by assumption)) | exact HB.out))) : w.heap.size ≤ gb124)); replace HB := Aside0.mk (qq_ (by repeat (first | (with_reducible first | exact HB.out | apply qh_ | apply qc_ | apply qf_ | refine qk_ ?_ (by assumption)) | exact HB.out)) hb); have NB113_124 := Aside0.mk ((by rw [hg]; exact Nat.ne_of_lt (qB_ (g := gb113) (o := .cells #[.slice A0_0 l0_0.length c0_0] 24 (0, 0)) (by (with_reducible repeat first | apply qa_ | apply qb_ | apply blk_alloc); exact BK113.out)) : gb113 ≠ gb124)); have NB124_113 := Aside0.mk ((by rw [hg]; exact Nat.ne_of_gt (qB_ (g := gb113) (o := .cells #[.slice A0_0 l0_0.length c0_0] 24 (0, 0)) (by (with_reducible repeat first | apply qa_ | apply qb_ | apply blk_alloc); exact BK113.out)) : gb124 ≠ gb113)); replace BK113 := Aside0.mk (ql_ BK113 (by (with_reducible repeat first | apply qa_ | apply qb_ | apply blk_alloc); exact BK113.out) hb); have NB114_124 := Aside0.mk ((by rw [hg]; exact Nat.ne_of_lt (qB_ (g := gb114) (o := .cells #[.int .i64 x115000_1, .int .i64 x115001_1] 28 (0, 0)) (by (with_reducible repeat first | apply qa_ | apply qb_ | apply blk_alloc); exact BK114.out)) : gb114 ≠ gb124)); have NB124_114 := Aside0.mk ((by rw [hg]; exact Nat.ne_of_gt (qB_ (g := gb114) (o := .cells #[.int .i64 x115000_1, .int .i64 x115001_1] 28 (0, 0)) (by (with_reducible repeat first | apply qa_ | apply qb_ | apply blk_alloc); exact BK114.out)) : gb124 ≠ gb114)); replace BK114 := Aside0.mk (ql_ BK114 (by (with_reducible repeat first | apply qa_ | apply qb_ | apply blk_alloc); exact BK114.out) hb); clear hb hbox hg; have hnb49 := NB124_113.out; have hnc49 := NB113_124.out; have hnb50 := NB124_114.out; have hnc50 := NB114_124.out; have hcz51_0 := qg_ BK124 0 (.int .i64 0) rfl; have hcz51_1 := qg_ BK124 1 (.int .i64 0) rfl; have hfz51_0 := qd_ BK124 0; have hfz51_1 := qd_ BK124 1; have hnb52 := NB113_114.out; have hnc52 := NB114_113.out; have hcz53_0 := qg_ BK113 0 (.slice A0_0 l0_0.length c0_0) rfl; have hfz53_0 := qd_ BK113 0; have hcz54_0 := qg_ BK114 0 (.int .i64 x115000_1) rfl; have hcz54_1 := qg_ BK114 1 (.int .i64 x115001_1) rfl; have hfz54_0 := qd_ BK114 0; have hfz54_1 := qd_ BK114 1))
          refine bodyPost_ret (results_cell_row rfl _ _ gb114 28 #[.int .i64 10, .int .i64 (-1)] (0, 0) _ rfl (by (with_reducible repeat first | apply qa_ | apply qb_ | apply blk_alloc); refine qA_ (cs := #[.int .i64 10, .int .i64 x115001_1]) ?_ 1 _ rfl; (with_reducible repeat first | apply qa_ | apply qb_ | apply blk_alloc); refine qA_ (cs := #[.int .i64 x115000_1, .int .i64 x115001_1]) ?_ 0 _ rfl; (with_reducible repeat first | apply qa_ | apply qb_ | apply blk_alloc); refine qn_ ?_ NB114_124.out _; (with_reducible repeat first | apply qa_ | apply qb_ | apply blk_alloc); refine qn_ ?_ NB114_124.out _; (with_reducible repeat first | apply qa_ | apply qb_ | apply blk_alloc); exact BK114.out) Tryd.underlying28 rfl (by kernel_rfl)) rfl ?_
          exact ⟨by first | rfl | (simp [errW_none, errW_some] <;> rfl) | (simp only [← hji42]; first | rfl | (simp [errW_none, errW_some] <;> rfl)) | (simp [*, errW_none, errW_some] <;> rfl), by repeat (first | (with_reducible first | exact HB.out | apply qh_ | apply qc_ | apply qf_ | refine qk_ ?_ (by assumption)) | exact HB.out)⟩
         ·rw [if_neg c46] at H
          have c46b0 : decide (12 < ((rd_T62 x4_1 (ji42)).f1)) = false := decide_eq_false c46
          clear c46
          simp only [Option.some.injEq, Prod.mk.injEq] at H
          obtain ⟨rfl, rfl⟩ := H
          obtain ⟨Ao55, co55, eo55⟩ := Kd.R_slice HO_4.out
          subst eo55
          have p123 : 0 ≤ ((ji42) : Int) := of_decide_eq_true (by assumption)
          have q123 : (ji42) < (x4_1.length : Int) := of_decide_eq_true (by assumption)
          obtain ⟨ad123, e123, hx123_0, hx123_1⟩ := at_T62 (Kd.R_reads' HO_4.out).2.2 (ji42) p123 q123
          cases e123
          replace p123 := eq_true p123
          replace q123 := eq_true q123
          go_wp2_with (first | ((with_reducible refine gate_dst (N := 8) rfl ?_); refine qE_ ?hg (N := 8) ?hd (cs := #[.int .i64 0, .int .i64 0]) (t := 62) ?hr ?_; (case hd => rfl); (case hg => rfl); (case hr => first | (go_simp; done) | (go_simp; rfl)); intro gb124 hg w56 hbox hb; replace HO_4 := Aside0.mk (Kd.R_below (Kd.R_elderB (by (with_reducible repeat first | apply Kd.R_alloc | apply Kd.R_drewN | apply Kd.R_drew); exact HO_4.out) gb124 (Nat.le_of_eq hg.symm)) hb); have BK124 := Aside0.mk (hbox); have GW124 := Aside0.mk ((by rw [hg]; exact (qv_ (by repeat (first | (with_reducible first | exact HB.out | apply qh_ | apply qc_ | apply qf_ | refine qk_ ?_ (by assumption)) | exact HB.out))) : w.heap.size ≤ gb124)); have GE124 := Aside0.mk ((by rw [hg]; exact (qv_ (by repeat (first | (with_reducible first | exact HB.out | apply qh_ | apply qc_ | apply qf_ | refine qk_ ?_ (by assumption)) | exact HB.out))) : w.heap.size ≤ gb124)); replace HB := Aside0.mk (qq_ (by repeat (first | (with_reducible first | exact HB.out | apply qh_ | apply qc_ | apply qf_ | refine qk_ ?_ (by assumption)) | exact HB.out)) hb); have NB113_124 := Aside0.mk ((by rw [hg]; exact Nat.ne_of_lt (qB_ (g := gb113) (o := .cells #[.slice A0_0 l0_0.length c0_0] 24 (0, 0)) (by (with_reducible repeat first | apply qa_ | apply qb_ | apply blk_alloc); exact BK113.out)) : gb113 ≠ gb124)); have NB124_113 := Aside0.mk ((by rw [hg]; exact Nat.ne_of_gt (qB_ (g := gb113) (o := .cells #[.slice A0_0 l0_0.length c0_0] 24 (0, 0)) (by (with_reducible repeat first | apply qa_ | apply qb_ | apply blk_alloc); exact BK113.out)) : gb124 ≠ gb113)); replace BK113 := Aside0.mk (ql_ BK113 (by (with_reducible repeat first | apply qa_ | apply qb_ | apply blk_alloc); exact BK113.out) hb); have NB114_124 := Aside0.mk ((by rw [hg]; exact Nat.ne_of_lt (qB_ (g := gb114) (o := .cells #[.int .i64 x115000_1, .int .i64 x115001_1] 28 (0, 0)) (by (with_reducible repeat first | apply qa_ | apply qb_ | apply blk_alloc); exact BK114.out)) : gb114 ≠ gb124)); have NB124_114 := Aside0.mk ((by rw [hg]; exact Nat.ne_of_gt (qB_ (g := gb114) (o := .cells #[.int .i64 x115000_1, .int .i64 x115001_1] 28 (0, 0)) (by (with_reducible repeat first | apply qa_ | apply qb_ | apply blk_alloc); exact BK114.out)) : gb124 ≠ gb114)); replace BK114 := Aside0.mk (ql_ BK114 (by (with_reducible repeat first | apply qa_ | apply qb_ | apply blk_alloc); exact BK114.out) hb); clear hb hbox hg; have hnb57 := NB124_113.out; have hnc57 := NB113_124.out; have hnb58 := NB124_114.out; have hnc58 := NB114_124.out; have hcz59_0 := qg_ BK124 0 (.int .i64 0) rfl; have hcz59_1 := qg_ BK124 1 (.int .i64 0) rfl; have hfz59_0 := qd_ BK124 0; have hfz59_1 := qd_ BK124 1; have hnb60 := NB113_114.out; have hnc60 := NB114_113.out; have hcz61_0 := qg_ BK113 0 (.slice A0_0 l0_0.length c0_0) rfl; have hfz61_0 := qd_ BK113 0; have hcz62_0 := qg_ BK114 0 (.int .i64 x115000_1) rfl; have hcz62_1 := qg_ BK114 1 (.int .i64 x115001_1) rfl; have hfz62_0 := qd_ BK114 0; have hfz62_1 := qd_ BK114 1))
          refine bodyPost_ret (results_cell_row rfl _ _ gb114 28 #[.int .i64 0, .int .i64 0] (0, 0) _ rfl (by (with_reducible repeat first | apply qa_ | apply qb_ | apply blk_alloc); refine qA_ (cs := #[.int .i64 0, .int .i64 x115001_1]) ?_ 1 _ rfl; (with_reducible repeat first | apply qa_ | apply qb_ | apply blk_alloc); refine qA_ (cs := #[.int .i64 x115000_1, .int .i64 x115001_1]) ?_ 0 _ rfl; (with_reducible repeat first | apply qa_ | apply qb_ | apply blk_alloc); refine qn_ ?_ NB114_124.out _; (with_reducible repeat first | apply qa_ | apply qb_ | apply blk_alloc); refine qn_ ?_ NB114_124.out _; (with_reducible repeat first | apply qa_ | apply qb_ | apply blk_alloc); exact BK114.out) Tryd.underlying28 rfl (by kernel_rfl)) rfl ?_
          exact ⟨by first | rfl | (simp [errW_none, errW_some] <;> rfl) | (simp only [← hji42]; first | rfl | (simp [errW_none, errW_some] <;> rfl)) | (simp [*, errW_none, errW_some] <;> rfl), by repeat (first | (with_reducible first | exact HB.out | apply qh_ | apply qc_ | apply qf_ | refine qk_ ?_ (by assumption)) | exact HB.out)⟩
        ·rw [if_neg c45] at H
         have c45b0 : (((rd_T62 x4_1 (ji42)).f0) == (l0_0.length : Int)) = false := beq_eq_false_iff_ne.mpr c45
         have c45b1 : (((rd_T62 x4_1 (ji42)).f0) != (l0_0.length : Int)) = true := bne_iff_ne.mpr c45
         simp only [Option.some.injEq, Prod.mk.injEq] at H
         obtain ⟨rfl, rfl⟩ := H
         obtain ⟨Ao63, co63, eo63⟩ := Kd.R_slice HO_4.out
         subst eo63
         have p123 : 0 ≤ ((ji42) : Int) := of_decide_eq_true (by assumption)
         have q123 : (ji42) < (x4_1.length : Int) := of_decide_eq_true (by assumption)
         obtain ⟨ad123, e123, hx123_0, hx123_1⟩ := at_T62 (Kd.R_reads' HO_4.out).2.2 (ji42) p123 q123
         cases e123
         replace p123 := eq_true p123
         replace q123 := eq_true q123
         go_wp2_with (first | ((with_reducible refine gate_dst (N := 8) rfl ?_); refine qE_ ?hg (N := 8) ?hd (cs := #[.int .i64 0, .int .i64 0]) (t := 62) ?hr ?_; (case hd => rfl); (case hg => rfl); (case hr => first | (go_simp; done) | (go_simp; rfl)); intro gb124 hg w64 hbox hb; replace HO_4 := Aside0.mk (Kd.R_below (Kd.R_elderB (by (with_reducible repeat first | apply Kd.R_alloc | apply Kd.R_drewN | apply Kd.R_drew); exact HO_4.out) gb124 (Nat.le_of_eq hg.symm)) hb); have BK124 := Aside0.mk (hbox); have GW124 := Aside0.mk ((by rw [hg]; exact (qv_ (by repeat (first | (with_reducible first | exact HB.out | apply qh_ | apply qc_ | apply qf_ | refine qk_ ?_ (by assumption)) | exact HB.out))) : w.heap.size ≤ gb124)); have GE124 := Aside0.mk ((by rw [hg]; exact (qv_ (by repeat (first | (with_reducible first | exact HB.out | apply qh_ | apply qc_ | apply qf_ | refine qk_ ?_ (by assumption)) | exact HB.out))) : w.heap.size ≤ gb124)); replace HB := Aside0.mk (qq_ (by repeat (first | (with_reducible first | exact HB.out | apply qh_ | apply qc_ | apply qf_ | refine qk_ ?_ (by assumption)) | exact HB.out)) hb); have NB113_124 := Aside0.mk ((by rw [hg]; exact Nat.ne_of_lt (qB_ (g := gb113) (o := .cells #[.slice A0_0 l0_0.length c0_0] 24 (0, 0)) (by (with_reducible repeat first | apply qa_ | apply qb_ | apply blk_alloc); exact BK113.out)) : gb113 ≠ gb124)); have NB124_113 := Aside0.mk ((by rw [hg]; exact Nat.ne_of_gt (qB_ (g := gb113) (o := .cells #[.slice A0_0 l0_0.length c0_0] 24 (0, 0)) (by (with_reducible repeat first | apply qa_ | apply qb_ | apply blk_alloc); exact BK113.out)) : gb124 ≠ gb113)); replace BK113 := Aside0.mk (ql_ BK113 (by (with_reducible repeat first | apply qa_ | apply qb_ | apply blk_alloc); exact BK113.out) hb); have NB114_124 := Aside0.mk ((by rw [hg]; exact Nat.ne_of_lt (qB_ (g := gb114) (o := .cells #[.int .i64 x115000_1, .int .i64 x115001_1] 28 (0, 0)) (by (with_reducible repeat first | apply qa_ | apply qb_ | apply blk_alloc); exact BK114.out)) : gb114 ≠ gb124)); have NB124_114 := Aside0.mk ((by rw [hg]; exact Nat.ne_of_gt (qB_ (g := gb114) (o := .cells #[.int .i64 x115000_1, .int .i64 x115001_1] 28 (0, 0)) (by (with_reducible repeat first | apply qa_ | apply qb_ | apply blk_alloc); exact BK114.out)) : gb124 ≠ gb114)); replace BK114 := Aside0.mk (ql_ BK114 (by (with_reducible repeat first | apply qa_ | apply qb_ | apply blk_alloc); exact BK114.out) hb); clear hb hbox hg; have hnb65 := NB124_113.out; have hnc65 := NB113_124.out; have hnb66 := NB124_114.out; have hnc66 := NB114_124.out; have hcz67_0 := qg_ BK124 0 (.int .i64 0) rfl; have hcz67_1 := qg_ BK124 1 (.int .i64 0) rfl; have hfz67_0 := qd_ BK124 0; have hfz67_1 := qd_ BK124 1; have hnb68 := NB113_114.out; have hnc68 := NB114_113.out; have hcz69_0 := qg_ BK113 0 (.slice A0_0 l0_0.length c0_0) rfl; have hfz69_0 := qd_ BK113 0; have hcz70_0 := qg_ BK114 0 (.int .i64 x115000_1) rfl; have hcz70_1 := qg_ BK114 1 (.int .i64 x115001_1) rfl; have hfz70_0 := qd_ BK114 0; have hfz70_1 := qd_ BK114 1))
         refine bodyPost_ret (results_cell_row rfl _ _ gb114 28 #[.int .i64 5, .int .i64 (-1)] (0, 0) _ rfl (by (with_reducible repeat first | apply qa_ | apply qb_ | apply blk_alloc); refine qA_ (cs := #[.int .i64 5, .int .i64 x115001_1]) ?_ 1 _ rfl; (with_reducible repeat first | apply qa_ | apply qb_ | apply blk_alloc); refine qA_ (cs := #[.int .i64 x115000_1, .int .i64 x115001_1]) ?_ 0 _ rfl; (with_reducible repeat first | apply qa_ | apply qb_ | apply blk_alloc); refine qn_ ?_ NB114_124.out _; (with_reducible repeat first | apply qa_ | apply qb_ | apply blk_alloc); refine qn_ ?_ NB114_124.out _; (with_reducible repeat first | apply qa_ | apply qb_ | apply blk_alloc); exact BK114.out) Tryd.underlying28 rfl (by kernel_rfl)) rfl ?_
         exact ⟨by first | rfl | (simp [errW_none, errW_some] <;> rfl) | (simp only [← hji42]; first | rfl | (simp [errW_none, errW_some] <;> rfl)) | (simp [*, errW_none, errW_some] <;> rfl), by repeat (first | (with_reducible first | exact HB.out | apply qh_ | apply qc_ | apply qf_ | refine qk_ ?_ (by assumption)) | exact HB.out)⟩
       ·rw [if_neg c44] at H
        exact absurd H (by simp)
      ·rw [if_neg c43] at H
       exact absurd H (by simp)

end Go.Proofs.YtblkkhddefnkpaaDoor.PPo
