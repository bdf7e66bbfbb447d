-- printed by drv.py (a program of this repo, over the kit's printer)
import Derived.Test.YtblkkhddefnkpaaDoorPPox0
namespace Go.Proofs.YtblkkhddefnkpaaDoor.PPo
open Go.RowKit Go.Proofs.YtblkkhddefnkpaaDoorW.PrintWords Go.Proofs.YtblkkhddefnkpaaDoorW.PrintLast Go.Proofs.YtblkkhddefnkpaaDoorW.PrintMore
attribute [local go_sem] max2_int min2_int max_two min_two max_three min_three max_four min_four   -- for this text's walks alone
set_option linter.unusedVariables false
set_option linter.unusedSimpArgs false

/-! ### changeforgeref7_Depth: function 23 -/
def changeforgeref7_Depth.f : Nat → List (S47) → Int → Option (Int)
 | 0, _, _ => none
 | k + 1, l0, a1 => if 0 ≤ a1 then (if a1 < (l0.length : Int) then (if ((qj_ l0 a1).f0) < 5 then (some 1) else ((changeforgeref7_Depth.f k l0 ((qj_ l0 a1).f2)).bind fun t112 => (if ((qj_ l0 a1).f0) > 5 then ((changeforgeref7_Depth.f k l0 ((qj_ l0 a1).f3)).bind fun t113 => (some (wrap64 ((mx t112 t113) + 1)))) else (some (wrap64 (t112 + 1)))))) else (none)) else (none)
theorem changeforgeref7_Depth.mono_l : ∀ k, (∀ y0 y1, LeO (changeforgeref7_Depth.f k y0 y1) (changeforgeref7_Depth.f (k + 1) y0 y1))
 | 0 => fun _ _ r h => by simp [changeforgeref7_Depth.f] at h
 | k + 1 => by
  have ih0 := changeforgeref7_Depth.mono_l k
  ·intro y0 y1
   unfold changeforgeref7_Depth.f
   repeat' first
   | (with_reducible exact ih0 _ _)
   | (with_reducible exact LeO.refl _)
   | (with_reducible exact LeO.none _)
   | (with_reducible refine LeO.ite ?_ ?_)
   | (with_reducible refine LeO.bind ?_ (fun _ => ?_))
   | exact ih0 _ _
   | exact LeO.none _
   | refine LeO.ite ?_ ?_
   | refine LeO.bind ?_ (fun _ => ?_)
theorem changeforgeref7_Depth.mono : ∀ a0 a1 k, LeO (changeforgeref7_Depth.f k a0 a1) (changeforgeref7_Depth.f (k + 1) a0 a1) := by
 intro a0 a1 k
 have ih0 := changeforgeref7_Depth.mono_l k
 exact ih0 a0 a1
set_option maxHeartbeats 8000000 in
set_option maxRecDepth 100000 in
theorem changeforgeref7_Depth.calls (k : Nat) : ∀ (A0 : Option Addr) (c0 : Nat) (l0 : List (S47)) (a1 : Int) (r : Int) (w : World) (hr0 : Kd.C k47 w A0 l0.length l0) (hc0 : l0.length ≤ c0) (h : changeforgeref7_Depth.f k l0 a1 = some r),
  Calls Tryd.prog 23 #[.slice A0 l0.length c0, .int .i64 a1] w fun e w' => e = .returned (.int .i64 r) ∧ Below w.heap.size w w' := by
 induction k using Nat.strongRecOn with
 | _ k ih =>
 intro A0 c0 l0 a1 r w hr0 hc0 h
 cases k with
 | zero => exact absurd h (by simp [changeforgeref7_Depth.f])
 | succ k =>
 simp only [changeforgeref7_Depth.f] at h
 have hu47 := Tryd.underlying47
 have HR0 := Aside0.mk hr0
 have HC0 := Aside0.mk hc0
 clear hr0 hc0
 have HB := Aside0.mk (Below.refl w.heap.size w)
 have H : (if 0 ≤ a1 then (if a1 < (l0.length : Int) then (if ((qj_ l0 a1).f0) < 5 then (some 1) else ((changeforgeref7_Depth.f k l0 ((qj_ l0 a1).f2)).bind fun t112 => (if ((qj_ l0 a1).f0) > 5 then ((changeforgeref7_Depth.f k l0 ((qj_ l0 a1).f3)).bind fun t113 => (some (wrap64 ((mx t112 t113) + 1)))) else (some (wrap64 (t112 + 1)))))) else (none)) else (none)) = some r := h
 clear h
 by_cases c3 : 0 ≤ a1
 ·rw [if_pos c3] at H
  have c3b0 : decide (0 ≤ a1) = true := decide_eq_true c3
  clear c3
  by_cases c4 : a1 < (l0.length : Int)
  ·rw [if_pos c4] at H
   have c4b0 : decide (a1 < (l0.length : Int)) = true := decide_eq_true c4
   clear c4
   by_cases c5 : ((qj_ l0 a1).f0) < 5
   ·rw [if_pos c5] at H
    have c5b0 : decide (((qj_ l0 a1).f0) < 5) = true := decide_eq_true c5
    clear c5
    obtain rfl := Option.some.inj H
    have p110 : 0 ≤ (a1 : Int) := of_decide_eq_true (by assumption)
    have q110 : a1 < (l0.length : Int) := of_decide_eq_true (by assumption)
    obtain ⟨ad110, e110, hx110_0, hx110_1, hx110_2, hx110_3⟩ := at_T47 HR0.out a1 p110 q110
    cases e110
    replace p110 := eq_true p110
    replace q110 := eq_true q110
    go_enter Tryd.func23, Tryd.ntmps23
    go_wp2_with (first | ((with_reducible refine gate_dst (N := 5) rfl ?_); refine qE_ ?hg (N := 5) ?hd (cs := #[.int .i64 0, .int .i64 0, .int .i64 0, .int .i64 0]) (t := 47) ?hr ?_; (case hd => rfl); (case hg => rfl); (case hr => first | (go_simp; done) | (go_simp; rfl)); intro gb111 hg w6 hbox hb; have BK111 := Aside0.mk (hbox); have GW111 := Aside0.mk ((by rw [hg]; exact (qv_ (by repeat (first | (with_reducible first | exact HB.out | apply qh_ | apply qc_ | apply qf_) | exact HB.out))) : w.heap.size ≤ gb111)); have GE111 := Aside0.mk ((by rw [hg]; exact (qv_ (by repeat (first | (with_reducible first | exact HB.out | apply qh_ | apply qc_ | apply qf_) | exact HB.out))) : w.heap.size ≤ gb111)); replace HB := Aside0.mk (qq_ (by repeat (first | (with_reducible first | exact HB.out | apply qh_ | apply qc_ | apply qf_) | exact HB.out)) hb); clear hb hbox hg; have hcz7_0 := qg_ BK111 0 (.int .i64 0) rfl; have hcz7_1 := qg_ BK111 1 (.int .i64 0) rfl; have hcz7_2 := qg_ BK111 2 (.int .i64 0) rfl; have hcz7_3 := qg_ BK111 3 (.int .i64 0) rfl; have hfz7_0 := qd_ BK111 0; have hfz7_1 := qd_ BK111 1; have hfz7_2 := qd_ BK111 2; have hfz7_3 := qd_ BK111 3))
    go_ret
    exact ⟨by first | rfl | (simp [*] <;> rfl), by repeat (first | (with_reducible first | exact HB.out | apply qh_ | apply qc_ | apply qf_ | refine qk_ ?_ (by assumption)) | exact HB.out)⟩
   ·rw [if_neg c5] at H
    have c5b0 : decide (((qj_ l0 a1).f0) < 5) = false := decide_eq_false c5
    clear c5
    replace H := Option.bind_eq_some_iff.mp H
    obtain ⟨t112, A80, H⟩ := H
    replace H : (if ((qj_ l0 a1).f0) > 5 then ((changeforgeref7_Depth.f k l0 ((qj_ l0 a1).f3)).bind fun t113 => (some (wrap64 ((mx t112 t113) + 1)))) else (some (wrap64 (t112 + 1)))) = some r := H
    have A8 := Aside0.mk A80
    clear A80
    by_cases c9 : ((qj_ l0 a1).f0) > 5
    ·rw [if_pos c9] at H
     have c9b0 : decide (5 < ((qj_ l0 a1).f0)) = true := decide_eq_true c9
     clear c9
     replace H := Option.bind_eq_some_iff.mp H
     obtain ⟨t113, A100, H⟩ := H
     replace H : (some (wrap64 ((mx t112 t113) + 1))) = some r := H
     have A10 := Aside0.mk A100
     clear A100
     obtain ⟨ji11, hji11⟩ : ∃ j_ : Int, (mx t112 t113) = j_ := ⟨_, rfl⟩
     replace H : (some (wrap64 ((ji11) + 1))) = some r := by first | (rw [hji11] at H; exact H) | (simp only [hji11] at H ⊢; exact H)
     (try rw [hji11] at A8)
     (try rw [hji11] at A10)
     have hji11_ : (if t112 < t113 then t113 else t112) = ji11 := hji11
     obtain rfl := Option.some.inj H
     have p110 : 0 ≤ (a1 : Int) := of_decide_eq_true (by assumption)
     have q110 : a1 < (l0.length : Int) := of_decide_eq_true (by assumption)
     obtain ⟨ad110, e110, hx110_0, hx110_1, hx110_2, hx110_3⟩ := at_T47 HR0.out a1 p110 q110
     cases e110
     replace p110 := eq_true p110
     replace q110 := eq_true q110
     go_enter Tryd.func23, Tryd.ntmps23
     go_wp2_with (first | ((with_reducible refine gate_dst (N := 5) rfl ?_); refine qE_ ?hg (N := 5) ?hd (cs := #[.int .i64 0, .int .i64 0, .int .i64 0, .int .i64 0]) (t := 47) ?hr ?_; (case hd => rfl); (case hg => rfl); (case hr => first | (go_simp; done) | (go_simp; rfl)); intro gb111 hg w12 hbox hb; have BK111 := Aside0.mk (hbox); have GW111 := Aside0.mk ((by rw [hg]; exact (qv_ (by repeat (first | (with_reducible first | exact HB.out | apply qh_ | apply qc_ | apply qf_) | exact HB.out))) : w.heap.size ≤ gb111)); have GE111 := Aside0.mk ((by rw [hg]; exact (qv_ (by repeat (first | (with_reducible first | exact HB.out | apply qh_ | apply qc_ | apply qf_) | exact HB.out))) : w.heap.size ≤ gb111)); replace HB := Aside0.mk (qq_ (by repeat (first | (with_reducible first | exact HB.out | apply qh_ | apply qc_ | apply qf_) | exact HB.out)) hb); clear hb hbox hg; have hcz13_0 := qg_ BK111 0 (.int .i64 0) rfl; have hcz13_1 := qg_ BK111 1 (.int .i64 0) rfl; have hcz13_2 := qg_ BK111 2 (.int .i64 0) rfl; have hcz13_3 := qg_ BK111 3 (.int .i64 0) rfl; have hfz13_0 := qd_ BK111 0; have hfz13_1 := qd_ BK111 1; have hfz13_2 := qd_ BK111 2; have hfz13_3 := qd_ BK111 3) | ((with_reducible refine qs_ (f := 23) rfl ?_); refine goesL_ (some 17) rfl rfl Tryd.func23 (by kernel_rfl) rfl #[.slice (some ad110) l0.length c0, .int .i64 ((qj_ l0 a1).f2)] rfl (by (try simp only [List.map_toArray]); first | done | rfl) ?_; (with_reducible refine (ih k (by omega) _ _ l0 ((qj_ l0 a1).f2) t112 _ ?side1 ?side2 A8.out).mono ?_); (case side1 => exact Kd.C_below HR0.out (by repeat (first | (with_reducible first | exact HB.out | apply qh_ | apply qc_ | apply qf_ | refine qk_ ?_ (by assumption)) | exact HB.out))); (case side2 => exact HC0.out); rintro e w14 ⟨rfl, hb⟩; refine ⟨_, rfl, ?_⟩; replace BK111 := Aside0.mk (qy_ (g := gb111) (o := .cells #[.int .i64 ((qj_ l0 a1).f0), .int .i64 ((qj_ l0 a1).f1), .int .i64 ((qj_ l0 a1).f2), .int .i64 ((qj_ l0 a1).f3)] 47 (0, 0)) (by (with_reducible repeat first | apply qa_ | apply qb_ | apply blk_alloc); refine qA_ (cs := #[.int .i64 ((qj_ l0 a1).f0), .int .i64 ((qj_ l0 a1).f1), .int .i64 ((qj_ l0 a1).f2), .int .i64 0]) ?_ 3 _ rfl; (with_reducible repeat first | apply qa_ | apply qb_ | apply blk_alloc); refine qA_ (cs := #[.int .i64 ((qj_ l0 a1).f0), .int .i64 ((qj_ l0 a1).f1), .int .i64 0, .int .i64 0]) ?_ 2 _ rfl; (with_reducible repeat first | apply qa_ | apply qb_ | apply blk_alloc); refine qA_ (cs := #[.int .i64 ((qj_ l0 a1).f0), .int .i64 0, .int .i64 0, .int .i64 0]) ?_ 1 _ rfl; (with_reducible repeat first | apply qa_ | apply qb_ | apply blk_alloc); refine qA_ (cs := #[.int .i64 0, .int .i64 0, .int .i64 0, .int .i64 0]) ?_ 0 _ rfl; (with_reducible repeat first | apply qa_ | apply qb_ | apply blk_alloc); exact BK111.out) hb); replace HB := Aside0.mk (qq_ (by repeat (first | (with_reducible first | exact HB.out | apply qh_ | apply qc_ | apply qf_ | refine qk_ ?_ (by assumption)) | exact HB.out)) hb); (try clear hb); have hcz15_0 := qg_ BK111 0 (.int .i64 ((qj_ l0 a1).f0)) rfl; have hcz15_1 := qg_ BK111 1 (.int .i64 ((qj_ l0 a1).f1)) rfl; have hcz15_2 := qg_ BK111 2 (.int .i64 ((qj_ l0 a1).f2)) rfl; have hcz15_3 := qg_ BK111 3 (.int .i64 ((qj_ l0 a1).f3)) rfl; have hfz15_0 := qd_ BK111 0; have hfz15_1 := qd_ BK111 1; have hfz15_2 := qd_ BK111 2; have hfz15_3 := qd_ BK111 3) | ((with_reducible refine qs_ (f := 23) rfl ?_); refine goesL_ (some 25) rfl rfl Tryd.func23 (by kernel_rfl) rfl #[.slice (some ad110) l0.length c0, .int .i64 ((qj_ l0 a1).f3)] rfl (by (try simp only [List.map_toArray]); first | done | rfl) ?_; (with_reducible refine (ih k (by omega) _ _ l0 ((qj_ l0 a1).f3) t113 _ ?side1 ?side2 A10.out).mono ?_); (case side1 => repeat (first | exact (Kd.C_below HR0.out HB.out) | (with_reducible refine Kd.C_alloc ?_ _) | (with_reducible refine Kd.C_drewN ?_ _) | (with_reducible refine Kd.C_drew ?_))); (case side2 => exact HC0.out); rintro e w16 ⟨rfl, hb⟩; refine ⟨_, rfl, ?_⟩; replace BK111 := Aside0.mk (ql_ BK111 (by (with_reducible repeat first | apply qa_ | apply qb_ | apply blk_alloc); exact BK111.out) hb); replace HB := Aside0.mk (qq_ (by repeat (first | (with_reducible first | exact HB.out | apply qh_ | apply qc_ | apply qf_ | refine qk_ ?_ (by assumption)) | exact HB.out)) hb); (try clear hb)))
     go_ret
     exact ⟨by first | rfl | (simp [errW_none, errW_some] <;> rfl) | (simp only [← hji11]; first | rfl | (simp [errW_none, errW_some] <;> rfl)) | (simp [*, errW_none, errW_some] <;> rfl), by repeat (first | (with_reducible first | exact HB.out | apply qh_ | apply qc_ | apply qf_ | refine qk_ ?_ (by assumption)) | exact HB.out)⟩
    ·rw [if_neg c9] at H
     have c9b0 : decide (5 < ((qj_ l0 a1).f0)) = false := decide_eq_false c9
     clear c9
     obtain rfl := Option.some.inj H
     have p110 : 0 ≤ (a1 : Int) := of_decide_eq_true (by assumption)
     have q110 : a1 < (l0.length : Int) := of_decide_eq_true (by assumption)
     obtain ⟨ad110, e110, hx110_0, hx110_1, hx110_2, hx110_3⟩ := at_T47 HR0.out a1 p110 q110
     cases e110
     replace p110 := eq_true p110
     replace q110 := eq_true q110
     go_enter Tryd.func23, Tryd.ntmps23
     go_wp2_with (first | ((with_reducible refine gate_dst (N := 5) rfl ?_); refine qE_ ?hg (N := 5) ?hd (cs := #[.int .i64 0, .int .i64 0, .int .i64 0, .int .i64 0]) (t := 47) ?hr ?_; (case hd => rfl); (case hg => rfl); (case hr => first | (go_simp; done) | (go_simp; rfl)); intro gb111 hg w17 hbox hb; have BK111 := Aside0.mk (hbox); have GW111 := Aside0.mk ((by rw [hg]; exact (qv_ (by repeat (first | (with_reducible first | exact HB.out | apply qh_ | apply qc_ | apply qf_) | exact HB.out))) : w.heap.size ≤ gb111)); have GE111 := Aside0.mk ((by rw [hg]; exact (qv_ (by repeat (first | (with_reducible first | exact HB.out | apply qh_ | apply qc_ | apply qf_) | exact HB.out))) : w.heap.size ≤ gb111)); replace HB := Aside0.mk (qq_ (by repeat (first | (with_reducible first | exact HB.out | apply qh_ | apply qc_ | apply qf_) | exact HB.out)) hb); clear hb hbox hg; have hcz18_0 := qg_ BK111 0 (.int .i64 0) rfl; have hcz18_1 := qg_ BK111 1 (.int .i64 0) rfl; have hcz18_2 := qg_ BK111 2 (.int .i64 0) rfl; have hcz18_3 := qg_ BK111 3 (.int .i64 0) rfl; have hfz18_0 := qd_ BK111 0; have hfz18_1 := qd_ BK111 1; have hfz18_2 := qd_ BK111 2; have hfz18_3 := qd_ BK111 3) | ((with_reducible refine qs_ (f := 23) rfl ?_); refine goesL_ (some 17) rfl rfl Tryd.func23 (by kernel_rfl) rfl #[.slice (some ad110) l0.length c0, .int .i64 ((qj_ l0 a1).f2)] rfl (by (try simp only [List.map_toArray]); first | done | rfl) ?_; (with_reducible refine (ih k (by omega) _ _ l0 ((qj_ l0 a1).f2) t112 _ ?side1 ?side2 A8.out).mono ?_); (case side1 => exact Kd.C_below HR0.out (by repeat (first | (with_reducible first | exact HB.out | apply qh_ | apply qc_ | apply qf_ | refine qk_ ?_ (by assumption)) | exact HB.out))); (case side2 => exact HC0.out); rintro e w19 ⟨rfl, hb⟩; refine ⟨_, rfl, ?_⟩; replace BK111 := Aside0.mk (qy_ (g := gb111) (o := .cells #[.int .i64 ((qj_ l0 a1).f0), .int .i64 ((qj_ l0 a1).f1), .int .i64 ((qj_ l0 a1).f2), .int .i64 ((qj_ l0 a1).f3)] 47 (0, 0)) (by (with_reducible repeat first | apply qa_ | apply qb_ | apply blk_alloc); refine qA_ (cs := #[.int .i64 ((qj_ l0 a1).f0), .int .i64 ((qj_ l0 a1).f1), .int .i64 ((qj_ l0 a1).f2), .int .i64 0]) ?_ 3 _ rfl; (with_reducible repeat first | apply qa_ | apply qb_ | apply blk_alloc); refine qA_ (cs := #[.int .i64 ((qj_ l0 a1).f0), .int .i64 ((qj_ l0 a1).f1), .int .i64 0, .int .i64 0]) ?_ 2 _ rfl; (with_reducible repeat first | apply qa_ | apply qb_ | apply blk_alloc); refine qA_ (cs := #[.int .i64 ((qj_ l0 a1).f0), .int .i64 0, .int .i64 0, .int .i64 0]) ?_ 1 _ rfl; (with_reducible repeat first | apply qa_ | apply qb_ | apply blk_alloc); refine qA_ (cs := #[.int .i64 0, .int .i64 0, .int .i64 0, .int .i64 0]) ?_ 0 _ rfl; (with_reducible repeat first | apply qa_ | apply qb_ | apply blk_alloc); exact BK111.out) hb); replace HB := Aside0.mk (qq_ (by repeat (first | (with_reducible first | exact HB.out | apply qh_ | apply qc_ | apply qf_ | refine qk_ ?_ (by assumption)) | exact HB.out)) hb); (try clear hb); have hcz20_0 := qg_ BK111 0 (.int .i64 ((qj_ l0 a1).f0)) rfl; have hcz20_1 := qg_ BK111 1 (.int .i64 ((qj_ l0 a1).f1)) rfl; have hcz20_2 := qg_ BK111 2 (.int .i64 ((qj_ l0 a1).f2)) rfl; have hcz20_3 := qg_ BK111 3 (.int .i64 ((qj_ l0 a1).f3)) rfl; have hfz20_0 := qd_ BK111 0; have hfz20_1 := qd_ BK111 1; have hfz20_2 := qd_ BK111 2; have hfz20_3 := qd_ BK111 3))
     go_ret
     exact ⟨by first | rfl | (simp [*] <;> rfl), by repeat (first | (with_reducible first | exact HB.out | apply qh_ | apply qc_ | apply qf_ | refine qk_ ?_ (by assumption)) | exact HB.out)⟩
  ·rw [if_neg c4] at H
   exact absurd H (by simp)
 ·rw [if_neg c3] at H
  exact absurd H (by simp)

end Go.Proofs.YtblkkhddefnkpaaDoor.PPo
