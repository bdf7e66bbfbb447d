-- printed by drv.py (a program of this repo, over the kit's printer)
import Derived.Test.YtblkkhddefnkpaaDoorPPox0
import Derived.Test.YtblkkhddefnkpaaDoorPPov3
import Derived.Test.YtblkkhddefnkpaaDoorPPox1
namespace Go.Proofs.YtblkkhddefnkpaaDoor.PPo
open Go.RowKit Go.Proofs.YtblkkhddefnkpaaDoorW.PrintWords Go.Proofs.YtblkkhddefnkpaaDoorW.PrintLast Go.Proofs.YtblkkhddefnkpaaDoorW.PrintMore
attribute [local go_sem] max2_int min2_int max_two min_two max_three min_three max_four min_four   -- for this text's walks alone
set_option linter.unusedVariables false
set_option linter.unusedSimpArgs false

/-! ### qo_: function 21 -/
mutual
def qo_.j0 : Nat → List (S47) → Int → Bool → Int → Int → Int → Int → Option (Int)
 | 0, _, _, _, _, _, _, _ => none
 | k + 1, x0, x1, x18, x108000, x108001, x108002, x108003 => if x18 = true then (some 4) else (if x108001 < 0 then (qo_.j1 k x0 x1 true x108000 x108001 x108002 x108003) else ((changeforgeref7_most.f x108000).bind fun t108 => (qo_.j1 k x0 x1 (decide (x108001 > t108)) x108000 x108001 x108002 x108003)))
def qo_.j1 : Nat → List (S47) → Int → Bool → Int → Int → Int → Int → Option (Int)
 | 0, _, _, _, _, _, _, _ => none
 | k + 1, x0, x1, x29, x108000, x108001, x108002, x108003 => if x29 = true then (some 3) else (if x108000 < 5 then (if x108002 = 0 then (if x108003 = 0 then (some 0) else (some 5)) else (some 5)) else (if x1 = 0 then (some 5) else (if x108000 = 5 then (if x108002 = (wrap64 (x1 - 1)) then (qo_.j2 k (x108003 != 0)) else (qo_.j2 k true)) else ((qt_.f k x0 (wrap64 (x1 - 1))).bind fun t109 => (if x108003 = (wrap64 (x1 - 1)) then (if (wrap64 ((wrap64 (x1 - 1)) - t109)) < 0 then (some 5) else (if x108002 = (wrap64 ((wrap64 (x1 - 1)) - t109)) then (some 0) else (some 5))) else (some 5))))))
def qo_.j2 : Nat → Bool → Option (Int)
 | 0, _ => none
 | k + 1, x55 => if x55 = true then (some 5) else (some 0)
end
def qo_.f (k : Nat) (l0 : List (S47)) (a1 : Int) : Option (Int) := if 0 ≤ a1 then (if a1 < (l0.length : Int) then (if ((qj_ l0 a1).f0) < 1 then (qo_.j0 k l0 a1 true ((qj_ l0 a1).f0) ((qj_ l0 a1).f1) ((qj_ l0 a1).f2) ((qj_ l0 a1).f3)) else (qo_.j0 k l0 a1 (decide (((qj_ l0 a1).f0) > 7)) ((qj_ l0 a1).f0) ((qj_ l0 a1).f1) ((qj_ l0 a1).f2) ((qj_ l0 a1).f3))) else (none)) else (none)
theorem qo_.mono_l : ∀ k, (∀ y0 y1 y2 y3 y4 y5 y6, LeO (qo_.j0 k y0 y1 y2 y3 y4 y5 y6) (qo_.j0 (k + 1) y0 y1 y2 y3 y4 y5 y6)) ∧ (∀ y0 y1 y2 y3 y4 y5 y6, LeO (qo_.j1 k y0 y1 y2 y3 y4 y5 y6) (qo_.j1 (k + 1) y0 y1 y2 y3 y4 y5 y6)) ∧ (∀ y0, LeO (qo_.j2 k y0) (qo_.j2 (k + 1) y0))
 | 0 => ⟨fun _ _ _ _ _ _ _ r h => by simp [qo_.j0] at h, fun _ _ _ _ _ _ _ r h => by simp [qo_.j1] at h, fun _ r h => by simp [qo_.j2] at h⟩
 | k + 1 => by
  obtain ⟨ih0, ih1, ih2⟩ := qo_.mono_l k
  refine ⟨?_, ?_, ?_⟩
  ·intro y0 y1 y2 y3 y4 y5 y6
   unfold qo_.j0
   repeat' first
   | (with_reducible exact ih0 _ _ _ _ _ _ _)
   | (with_reducible exact ih1 _ _ _ _ _ _ _)
   | (with_reducible exact ih2 _)
   | (with_reducible exact qt_.mono _ _ _)
   | (with_reducible exact LeO.refl _)
   | (with_reducible exact LeO.none _)
   | (with_reducible refine LeO.ite ?_ ?_)
   | (with_reducible refine LeO.bind ?_ (fun _ => ?_))
   | exact ih0 _ _ _ _ _ _ _
   | exact ih1 _ _ _ _ _ _ _
   | exact ih2 _
   | exact qt_.mono _ _ _
   | exact LeO.none _
   | refine LeO.ite ?_ ?_
   | refine LeO.bind ?_ (fun _ => ?_)
  ·intro y0 y1 y2 y3 y4 y5 y6
   unfold qo_.j1
   repeat' first
   | (with_reducible exact ih0 _ _ _ _ _ _ _)
   | (with_reducible exact ih1 _ _ _ _ _ _ _)
   | (with_reducible exact ih2 _)
   | (with_reducible exact qt_.mono _ _ _)
   | (with_reducible exact LeO.refl _)
   | (with_reducible exact LeO.none _)
   | (with_reducible refine LeO.ite ?_ ?_)
   | (with_reducible refine LeO.bind ?_ (fun _ => ?_))
   | exact ih0 _ _ _ _ _ _ _
   | exact ih1 _ _ _ _ _ _ _
   | exact ih2 _
   | exact qt_.mono _ _ _
   | exact LeO.none _
   | refine LeO.ite ?_ ?_
   | refine LeO.bind ?_ (fun _ => ?_)
  ·intro y0
   unfold qo_.j2
   repeat' first
   | (with_reducible exact ih0 _ _ _ _ _ _ _)
   | (with_reducible exact ih1 _ _ _ _ _ _ _)
   | (with_reducible exact ih2 _)
   | (with_reducible exact qt_.mono _ _ _)
   | (with_reducible exact LeO.refl _)
   | (with_reducible exact LeO.none _)
   | (with_reducible refine LeO.ite ?_ ?_)
   | (with_reducible refine LeO.bind ?_ (fun _ => ?_))
   | exact ih0 _ _ _ _ _ _ _
   | exact ih1 _ _ _ _ _ _ _
   | exact ih2 _
   | exact qt_.mono _ _ _
   | exact LeO.none _
   | refine LeO.ite ?_ ?_
   | refine LeO.bind ?_ (fun _ => ?_)
theorem qo_.mono : ∀ a0 a1 k, LeO (qo_.f k a0 a1) (qo_.f (k + 1) a0 a1) := by
 intro a0 a1 k
 obtain ⟨ih0, ih1, ih2⟩ := qo_.mono_l k
 unfold qo_.f
 repeat' first
   | (with_reducible exact ih0 _ _ _ _ _ _ _)
   | (with_reducible exact ih1 _ _ _ _ _ _ _)
   | (with_reducible exact ih2 _)
   | (with_reducible exact qt_.mono _ _ _)
   | (with_reducible exact LeO.refl _)
   | (with_reducible exact LeO.none _)
   | (with_reducible refine LeO.ite ?_ ?_)
   | (with_reducible refine LeO.bind ?_ (fun _ => ?_))
   | exact ih0 _ _ _ _ _ _ _
   | exact ih1 _ _ _ _ _ _ _
   | exact ih2 _
   | exact qt_.mono _ _ _
   | exact LeO.none _
   | refine LeO.ite ?_ ?_
   | refine LeO.bind ?_ (fun _ => ?_)
set_option maxHeartbeats 8000000 in
set_option maxRecDepth 100000 in
theorem qo_.calls (k : Nat) (A0 : Option Addr) (c0 : Nat) (l0 : List (S47)) (a1 : Int) (r : Int) (w : World) (hr0 : Kd.C k47 w A0 l0.length l0) (hc0 : l0.length ≤ c0) (h : qo_.f k l0 a1 = some r) :
  Calls Tryd.prog 21 #[.slice A0 l0.length c0, .int .i64 a1] w fun e w' => e = .returned (.int .i64 r) ∧ Below w.heap.size w w' := by
 have hu47 := Tryd.underlying47
 have HR0 := Aside0.mk hr0
 have HC0 := Aside0.mk hc0
 clear hr0 hc0
 have HB := Aside0.mk (Below.refl w.heap.size w)
 have H : (if 0 ≤ a1 then (if a1 < (l0.length : Int) then (if ((qj_ l0 a1).f0) < 1 then (qo_.j0 k l0 a1 true ((qj_ l0 a1).f0) ((qj_ l0 a1).f1) ((qj_ l0 a1).f2) ((qj_ l0 a1).f3)) else (qo_.j0 k l0 a1 (decide (((qj_ l0 a1).f0) > 7)) ((qj_ l0 a1).f0) ((qj_ l0 a1).f1) ((qj_ l0 a1).f2) ((qj_ l0 a1).f3))) else (none)) else (none)) = some r := h
 clear h
 by_cases c3 : 0 ≤ a1
 ·rw [if_pos c3] at H
  have c3b0 : decide (0 ≤ a1) = true := decide_eq_true c3
  clear c3
  by_cases c4 : a1 < (l0.length : Int)
  ·rw [if_pos c4] at H
   have c4b0 : decide (a1 < (l0.length : Int)) = true := decide_eq_true c4
   clear c4
   have HC5 := Aside0.mk H
   clear H
   have p106 : 0 ≤ (a1 : Int) := of_decide_eq_true (by assumption)
   have q106 : a1 < (l0.length : Int) := of_decide_eq_true (by assumption)
   obtain ⟨ad106, e106, hx106_0, hx106_1, hx106_2, hx106_3⟩ := at_T47 HR0.out a1 p106 q106
   cases e106
   replace p106 := eq_true p106
   replace q106 := eq_true q106
   go_enter Tryd.func21, Tryd.ntmps21
   go_upto_region 2 with (first | ((with_reducible refine gate_dst (N := 5) rfl ?_); refine qE_ ?hg (N := 5) ?hd (cs := #[.int .i64 0, .int .i64 0, .int .i64 0, .int .i64 0]) (t := 47) ?hr ?_; (case hd => rfl); (case hg => rfl); (case hr => first | (go_simp; done) | (go_simp; rfl)); intro gb107 hg w6 hbox hb; have BK107 := Aside0.mk (hbox); have GW107 := Aside0.mk ((by rw [hg]; exact (qv_ (by repeat (first | (with_reducible first | exact HB.out | apply qh_ | apply qc_ | apply qf_) | exact HB.out))) : w.heap.size ≤ gb107)); have GE107 := Aside0.mk ((by rw [hg]; exact (qv_ (by repeat (first | (with_reducible first | exact HB.out | apply qh_ | apply qc_ | apply qf_) | exact HB.out))) : w.heap.size ≤ gb107)); replace HB := Aside0.mk (qq_ (by repeat (first | (with_reducible first | exact HB.out | apply qh_ | apply qc_ | apply qf_) | exact HB.out)) hb); clear hb hbox hg; have hcz7_0 := qg_ BK107 0 (.int .i64 0) rfl; have hcz7_1 := qg_ BK107 1 (.int .i64 0) rfl; have hcz7_2 := qg_ BK107 2 (.int .i64 0) rfl; have hcz7_3 := qg_ BK107 3 (.int .i64 0) rfl; have hfz7_0 := qd_ BK107 0; have hfz7_1 := qd_ BK107 1; have hfz7_2 := qd_ BK107 2; have hfz7_3 := qd_ BK107 3))
   (try simp only [Act.put, List.setIfInBounds_toArray, List.set_cons_zero, List.set_cons_succ])
   go_cut [18] (fun v18 wc => ∃ (kq : Nat) (x18_4 : Bool), v18 = .bool x18_4 ∧ Aside0 (qo_.j0 kq l0 a1 x18_4 ((qj_ l0 a1).f0) ((qj_ l0 a1).f1) ((qj_ l0 a1).f2) ((qj_ l0 a1).f3) = some r) ∧ Aside0 (kq ≤ k) ∧ Aside0 (wc.heap[gb107]? = some (.cells #[.int .i64 ((qj_ l0 a1).f0), .int .i64 ((qj_ l0 a1).f1), .int .i64 ((qj_ l0 a1).f2), .int .i64 ((qj_ l0 a1).f3)] 47 (0, 0))) ∧ Aside0 (Below w.heap.size w wc))
   case first =>
    have H := HC5.out
    clear HC5
    by_cases c8 : ((qj_ l0 a1).f0) < 1
    ·rw [if_pos c8] at H
     have c8b0 : decide (((qj_ l0 a1).f0) < 1) = true := decide_eq_true c8
     clear c8
     (first | rw [c8b0] | (simp only [i64_w, i32_w]; rw [c8b0]) | skip)
     have H' := Aside0.mk H
     clear H
     have hcz9_0 := qg_ BK107 0 (.int .i64 0) rfl
     have hcz9_1 := qg_ BK107 1 (.int .i64 0) rfl
     have hcz9_2 := qg_ BK107 2 (.int .i64 0) rfl
     have hcz9_3 := qg_ BK107 3 (.int .i64 0) rfl
     have hfz9_0 := qd_ BK107 0
     have hfz9_1 := qd_ BK107 1
     have hfz9_2 := qd_ BK107 2
     have hfz9_3 := qd_ BK107 3
     go_wp2
     repeat (go_quiet (fail); try go_wp2)
     go_meet
     case rel => exact ⟨_, (true), (by first | rfl | (simp [*]; done)), H', ⟨by first | omega | exact Nat.le_refl _⟩, ⟨by (with_reducible repeat first | apply qa_ | apply qb_ | apply blk_alloc); refine qA_ (cs := #[.int .i64 ((qj_ l0 a1).f0), .int .i64 ((qj_ l0 a1).f1), .int .i64 ((qj_ l0 a1).f2), .int .i64 0]) ?_ 3 _ rfl; (with_reducible repeat first | apply qa_ | apply qb_ | apply blk_alloc); refine qA_ (cs := #[.int .i64 ((qj_ l0 a1).f0), .int .i64 ((qj_ l0 a1).f1), .int .i64 0, .int .i64 0]) ?_ 2 _ rfl; (with_reducible repeat first | apply qa_ | apply qb_ | apply blk_alloc); refine qA_ (cs := #[.int .i64 ((qj_ l0 a1).f0), .int .i64 0, .int .i64 0, .int .i64 0]) ?_ 1 _ rfl; (with_reducible repeat first | apply qa_ | apply qb_ | apply blk_alloc); refine qA_ (cs := #[.int .i64 0, .int .i64 0, .int .i64 0, .int .i64 0]) ?_ 0 _ rfl; (with_reducible repeat first | apply qa_ | apply qb_ | apply blk_alloc); exact BK107.out⟩, ⟨by repeat (first | (with_reducible first | exact HB.out | apply qh_ | apply qc_ | apply qf_ | refine qk_ ?_ (by assumption)) | exact HB.out)⟩⟩
    ·rw [if_neg c8] at H
     have c8b0 : decide (((qj_ l0 a1).f0) < 1) = false := decide_eq_false c8
     clear c8
     (first | rw [c8b0] | (simp only [i64_w, i32_w]; rw [c8b0]) | skip)
     have H' := Aside0.mk H
     clear H
     have hcz10_0 := qg_ BK107 0 (.int .i64 0) rfl
     have hcz10_1 := qg_ BK107 1 (.int .i64 0) rfl
     have hcz10_2 := qg_ BK107 2 (.int .i64 0) rfl
     have hcz10_3 := qg_ BK107 3 (.int .i64 0) rfl
     have hfz10_0 := qd_ BK107 0
     have hfz10_1 := qd_ BK107 1
     have hfz10_2 := qd_ BK107 2
     have hfz10_3 := qd_ BK107 3
     go_wp2
     repeat (go_quiet (fail); try go_wp2)
     go_meet
     case rel => exact ⟨_, (decide (((qj_ l0 a1).f0) > 7)), (by first | rfl | (simp [*]; done)), H', ⟨by first | omega | exact Nat.le_refl _⟩, ⟨by (with_reducible repeat first | apply qa_ | apply qb_ | apply blk_alloc); refine qA_ (cs := #[.int .i64 ((qj_ l0 a1).f0), .int .i64 ((qj_ l0 a1).f1), .int .i64 ((qj_ l0 a1).f2), .int .i64 0]) ?_ 3 _ rfl; (with_reducible repeat first | apply qa_ | apply qb_ | apply blk_alloc); refine qA_ (cs := #[.int .i64 ((qj_ l0 a1).f0), .int .i64 ((qj_ l0 a1).f1), .int .i64 0, .int .i64 0]) ?_ 2 _ rfl; (with_reducible repeat first | apply qa_ | apply qb_ | apply blk_alloc); refine qA_ (cs := #[.int .i64 ((qj_ l0 a1).f0), .int .i64 0, .int .i64 0, .int .i64 0]) ?_ 1 _ rfl; (with_reducible repeat first | apply qa_ | apply qb_ | apply blk_alloc); refine qA_ (cs := #[.int .i64 0, .int .i64 0, .int .i64 0, .int .i64 0]) ?_ 0 _ rfl; (with_reducible repeat first | apply qa_ | apply qb_ | apply blk_alloc); exact BK107.out⟩, ⟨by repeat (first | (with_reducible first | exact HB.out | apply qh_ | apply qc_ | apply qf_ | refine qk_ ?_ (by assumption)) | exact HB.out)⟩⟩
   case rest =>
    clear HC5
    obtain ⟨kq, x18_4, rfl, HA, HJ4, BK107, HB⟩ := hcut
    cases kq with
    | zero => exact absurd HA.out (by simp [qo_.j0])
    | succ kj4 =>
     have H := HA.out
     clear HA
     simp only [qo_.j0] at H
     by_cases c11 : x18_4 = true
     ·subst c11
      have H1 : (some 4) = some r := by rw [if_pos rfl] at H; exact H
      clear H
      have H := H1
      clear H1
      obtain rfl := Option.some.inj H
      go_wp2
      repeat (go_quiet (fail); try go_wp2)
      go_ret
      exact ⟨by first | rfl | (simp [*] <;> rfl), by repeat (first | (with_reducible first | exact HB.out | apply qh_ | apply qc_ | apply qf_ | refine qk_ ?_ (by assumption)) | exact HB.out)⟩
     ·replace c11 := Bool.eq_false_iff.mpr c11
      subst c11
      have H1 : (if ((qj_ l0 a1).f1) < 0 then (qo_.j1 kj4 l0 a1 true ((qj_ l0 a1).f0) ((qj_ l0 a1).f1) ((qj_ l0 a1).f2) ((qj_ l0 a1).f3)) else ((changeforgeref7_most.f ((qj_ l0 a1).f0)).bind fun t108 => (qo_.j1 kj4 l0 a1 (decide (((qj_ l0 a1).f1) > t108)) ((qj_ l0 a1).f0) ((qj_ l0 a1).f1) ((qj_ l0 a1).f2) ((qj_ l0 a1).f3)))) = some r := by rw [if_neg (show ¬ (false = true) by decide)] at H; exact H
      clear H
      have H := H1
      clear H1
      have HC12 := Aside0.mk H
      clear H
      go_upto_region 4 with (fail)
      repeat (go_quiet (fail); go_upto_region 4 with (fail))
      go_cut [29] (fun v29 wc => ∃ (kq : Nat) (x29_11 : Bool), v29 = .bool x29_11 ∧ Aside0 (qo_.j1 kq l0 a1 x29_11 ((qj_ l0 a1).f0) ((qj_ l0 a1).f1) ((qj_ l0 a1).f2) ((qj_ l0 a1).f3) = some r) ∧ Aside0 (kq ≤ kj4) ∧ Aside0 (wc.heap[gb107]? = some (.cells #[.int .i64 ((qj_ l0 a1).f0), .int .i64 ((qj_ l0 a1).f1), .int .i64 ((qj_ l0 a1).f2), .int .i64 ((qj_ l0 a1).f3)] 47 (0, 0))) ∧ Aside0 (Below w.heap.size w wc))
      case first =>
       have H := HC12.out
       clear HC12
       by_cases c13 : ((qj_ l0 a1).f1) < 0
       ·rw [if_pos c13] at H
        have c13b0 : decide (((qj_ l0 a1).f1) < 0) = true := decide_eq_true c13
        clear c13
        (first | rw [c13b0] | (simp only [i64_w, i32_w]; rw [c13b0]) | skip)
        have H' := Aside0.mk H
        clear H
        have hcz14_0 := qg_ BK107 0 (.int .i64 ((qj_ l0 a1).f0)) rfl
        have hcz14_1 := qg_ BK107 1 (.int .i64 ((qj_ l0 a1).f1)) rfl
        have hcz14_2 := qg_ BK107 2 (.int .i64 ((qj_ l0 a1).f2)) rfl
        have hcz14_3 := qg_ BK107 3 (.int .i64 ((qj_ l0 a1).f3)) rfl
        have hfz14_0 := qd_ BK107 0
        have hfz14_1 := qd_ BK107 1
        have hfz14_2 := qd_ BK107 2
        have hfz14_3 := qd_ BK107 3
        go_wp2
        repeat (go_quiet (fail); try go_wp2)
        go_meet
        case rel => exact ⟨_, (true), (by first | rfl | (simp [*]; done)), H', ⟨by have := HJ4.out; first | omega | exact Nat.le_refl _⟩, ⟨by (with_reducible repeat first | apply qa_ | apply qb_ | apply blk_alloc); exact BK107.out⟩, ⟨by repeat (first | (with_reducible first | exact HB.out | apply qh_ | apply qc_ | apply qf_ | refine qk_ ?_ (by assumption)) | exact HB.out)⟩⟩
       ·rw [if_neg c13] at H
        have c13b0 : decide (((qj_ l0 a1).f1) < 0) = false := decide_eq_false c13
        clear c13
        (first | rw [c13b0] | (simp only [i64_w, i32_w]; rw [c13b0]) | skip)
        replace H := Option.bind_eq_some_iff.mp H
        obtain ⟨t108, A150, H⟩ := H
        replace H : (qo_.j1 kj4 l0 a1 (decide (((qj_ l0 a1).f1) > t108)) ((qj_ l0 a1).f0) ((qj_ l0 a1).f1) ((qj_ l0 a1).f2) ((qj_ l0 a1).f3)) = some r := H
        have A15 := Aside0.mk A150
        clear A150
        have H' := Aside0.mk H
        clear H
        have hcz16_0 := qg_ BK107 0 (.int .i64 ((qj_ l0 a1).f0)) rfl
        have hcz16_1 := qg_ BK107 1 (.int .i64 ((qj_ l0 a1).f1)) rfl
        have hcz16_2 := qg_ BK107 2 (.int .i64 ((qj_ l0 a1).f2)) rfl
        have hcz16_3 := qg_ BK107 3 (.int .i64 ((qj_ l0 a1).f3)) rfl
        have hfz16_0 := qd_ BK107 0
        have hfz16_1 := qd_ BK107 1
        have hfz16_2 := qd_ BK107 2
        have hfz16_3 := qd_ BK107 3
        go_wp2_with (first | (go_at_call 36; (with_reducible refine (changeforgeref7_most.calls ((qj_ l0 a1).f0) t108 _ A15.out).mono ?_); rintro e w' ⟨rfl, ⟨nd, rfl⟩⟩; (try first | exact ⟨rfl, _, World.drewN_drewN _ _ _⟩ | exact ⟨rfl, _, Eq.trans (World.drewN_drewN _ _ _) (congrArg (World.drewN _) (Nat.add_assoc _ _ _))⟩)))
        repeat (go_quiet (first | (go_at_call 36; (with_reducible refine (changeforgeref7_most.calls ((qj_ l0 a1).f0) t108 _ A15.out).mono ?_); rintro e w' ⟨rfl, ⟨nd, rfl⟩⟩; (try first | exact ⟨rfl, _, World.drewN_drewN _ _ _⟩ | exact ⟨rfl, _, Eq.trans (World.drewN_drewN _ _ _) (congrArg (World.drewN _) (Nat.add_assoc _ _ _))⟩))); try go_wp2_with (first | (go_at_call 36; (with_reducible refine (changeforgeref7_most.calls ((qj_ l0 a1).f0) t108 _ A15.out).mono ?_); rintro e w' ⟨rfl, ⟨nd, rfl⟩⟩; (try first | exact ⟨rfl, _, World.drewN_drewN _ _ _⟩ | exact ⟨rfl, _, Eq.trans (World.drewN_drewN _ _ _) (congrArg (World.drewN _) (Nat.add_assoc _ _ _))⟩))))
        go_meet
        case rel => exact ⟨_, (decide (((qj_ l0 a1).f1) > t108)), (by first | rfl | (simp [*]; done)), H', ⟨by have := HJ4.out; first | omega | exact Nat.le_refl _⟩, ⟨by (with_reducible repeat first | apply qa_ | apply qb_ | apply blk_alloc); exact BK107.out⟩, ⟨by repeat (first | (with_reducible first | exact HB.out | apply qh_ | apply qc_ | apply qf_ | refine qk_ ?_ (by assumption)) | exact HB.out)⟩⟩
      case rest =>
       clear HC12
       obtain ⟨kq, x29_11, rfl, HA, HJ11, BK107, HB⟩ := hcut
       cases kq with
       | zero => exact absurd HA.out (by simp [qo_.j1])
       | succ kj11 =>
        have H := HA.out
        clear HA
        simp only [qo_.j1] at H
        by_cases c17 : x29_11 = true
        ·subst c17
         have H1 : (some 3) = some r := by rw [if_pos rfl] at H; exact H
         clear H
         have H := H1
         clear H1
         obtain rfl := Option.some.inj H
         go_wp2
         repeat (go_quiet (fail); try go_wp2)
         go_ret
         exact ⟨by first | rfl | (simp [*] <;> rfl), by repeat (first | (with_reducible first | exact HB.out | apply qh_ | apply qc_ | apply qf_ | refine qk_ ?_ (by assumption)) | exact HB.out)⟩
        ·replace c17 := Bool.eq_false_iff.mpr c17
         subst c17
         have H1 : (if ((qj_ l0 a1).f0) < 5 then (if ((qj_ l0 a1).f2) = 0 then (if ((qj_ l0 a1).f3) = 0 then (some 0) else (some 5)) else (some 5)) else (if a1 = 0 then (some 5) else (if ((qj_ l0 a1).f0) = 5 then (if ((qj_ l0 a1).f2) = (wrap64 (a1 - 1)) then (qo_.j2 kj11 (((qj_ l0 a1).f3) != 0)) else (qo_.j2 kj11 true)) else ((qt_.f kj11 l0 (wrap64 (a1 - 1))).bind fun t109 => (if ((qj_ l0 a1).f3) = (wrap64 (a1 - 1)) then (if (wrap64 ((wrap64 (a1 - 1)) - t109)) < 0 then (some 5) else (if ((qj_ l0 a1).f2) = (wrap64 ((wrap64 (a1 - 1)) - t109)) then (some 0) else (some 5))) else (some 5)))))) = some r := by rw [if_neg (show ¬ (false = true) by decide)] at H; exact H
         clear H
         have H := H1
         clear H1
         by_cases c18 : ((qj_ l0 a1).f0) < 5
         ·rw [if_pos c18] at H
          have c18b0 : decide (((qj_ l0 a1).f0) < 5) = true := decide_eq_true c18
          clear c18
          by_cases c19 : ((qj_ l0 a1).f2) = 0
          ·rw [if_pos c19] at H
           have c19b0 : (((qj_ l0 a1).f2) == 0) = true := beq_iff_eq.mpr c19
           have c19b1 : (((qj_ l0 a1).f2) != 0) = false := bne_eq_false_iff_eq.mpr c19
           clear c19
           by_cases c20 : ((qj_ l0 a1).f3) = 0
           ·rw [if_pos c20] at H
            have c20b0 : (((qj_ l0 a1).f3) == 0) = true := beq_iff_eq.mpr c20
            have c20b1 : (((qj_ l0 a1).f3) != 0) = false := bne_eq_false_iff_eq.mpr c20
            clear c20
            obtain rfl := Option.some.inj H
            have hcz21_0 := qg_ BK107 0 (.int .i64 ((qj_ l0 a1).f0)) rfl
            have hcz21_1 := qg_ BK107 1 (.int .i64 ((qj_ l0 a1).f1)) rfl
            have hcz21_2 := qg_ BK107 2 (.int .i64 ((qj_ l0 a1).f2)) rfl
            have hcz21_3 := qg_ BK107 3 (.int .i64 ((qj_ l0 a1).f3)) rfl
            have hfz21_0 := qd_ BK107 0
            have hfz21_1 := qd_ BK107 1
            have hfz21_2 := qd_ BK107 2
            have hfz21_3 := qd_ BK107 3
            go_wp2
            repeat (go_quiet (fail); try go_wp2)
            go_ret
            exact ⟨by first | rfl | (simp [*] <;> rfl), by repeat (first | (with_reducible first | exact HB.out | apply qh_ | apply qc_ | apply qf_ | refine qk_ ?_ (by assumption)) | exact HB.out)⟩
           ·rw [if_neg c20] at H
            have c20b0 : (((qj_ l0 a1).f3) == 0) = false := beq_eq_false_iff_ne.mpr c20
            have c20b1 : (((qj_ l0 a1).f3) != 0) = true := bne_iff_ne.mpr c20
            obtain rfl := Option.some.inj H
            have hcz22_0 := qg_ BK107 0 (.int .i64 ((qj_ l0 a1).f0)) rfl
            have hcz22_1 := qg_ BK107 1 (.int .i64 ((qj_ l0 a1).f1)) rfl
            have hcz22_2 := qg_ BK107 2 (.int .i64 ((qj_ l0 a1).f2)) rfl
            have hcz22_3 := qg_ BK107 3 (.int .i64 ((qj_ l0 a1).f3)) rfl
            have hfz22_0 := qd_ BK107 0
            have hfz22_1 := qd_ BK107 1
            have hfz22_2 := qd_ BK107 2
            have hfz22_3 := qd_ BK107 3
            go_wp2
            repeat (go_quiet (fail); try go_wp2)
            go_ret
            exact ⟨by first | rfl | (simp [*] <;> rfl), by repeat (first | (with_reducible first | exact HB.out | apply qh_ | apply qc_ | apply qf_ | refine qk_ ?_ (by assumption)) | exact HB.out)⟩
          ·rw [if_neg c19] at H
           have c19b0 : (((qj_ l0 a1).f2) == 0) = false := beq_eq_false_iff_ne.mpr c19
           have c19b1 : (((qj_ l0 a1).f2) != 0) = true := bne_iff_ne.mpr c19
           obtain rfl := Option.some.inj H
           have hcz23_0 := qg_ BK107 0 (.int .i64 ((qj_ l0 a1).f0)) rfl
           have hcz23_1 := qg_ BK107 1 (.int .i64 ((qj_ l0 a1).f1)) rfl
           have hcz23_2 := qg_ BK107 2 (.int .i64 ((qj_ l0 a1).f2)) rfl
           have hcz23_3 := qg_ BK107 3 (.int .i64 ((qj_ l0 a1).f3)) rfl
           have hfz23_0 := qd_ BK107 0
           have hfz23_1 := qd_ BK107 1
           have hfz23_2 := qd_ BK107 2
           have hfz23_3 := qd_ BK107 3
           go_wp2
           repeat (go_quiet (fail); try go_wp2)
           go_ret
           exact ⟨by first | rfl | (simp [*] <;> rfl), by repeat (first | (with_reducible first | exact HB.out | apply qh_ | apply qc_ | apply qf_ | refine qk_ ?_ (by assumption)) | exact HB.out)⟩
         ·rw [if_neg c18] at H
          have c18b0 : decide (((qj_ l0 a1).f0) < 5) = false := decide_eq_false c18
          clear c18
          by_cases c24 : a1 = 0
          ·rw [if_pos c24] at H
           have c24b0 : (a1 == 0) = true := beq_iff_eq.mpr c24
           have c24b1 : (a1 != 0) = false := bne_eq_false_iff_eq.mpr c24
           clear c24
           obtain rfl := Option.some.inj H
           have hcz25_0 := qg_ BK107 0 (.int .i64 ((qj_ l0 a1).f0)) rfl
           have hcz25_1 := qg_ BK107 1 (.int .i64 ((qj_ l0 a1).f1)) rfl
           have hcz25_2 := qg_ BK107 2 (.int .i64 ((qj_ l0 a1).f2)) rfl
           have hcz25_3 := qg_ BK107 3 (.int .i64 ((qj_ l0 a1).f3)) rfl
           have hfz25_0 := qd_ BK107 0
           have hfz25_1 := qd_ BK107 1
           have hfz25_2 := qd_ BK107 2
           have hfz25_3 := qd_ BK107 3
           go_wp2
           repeat (go_quiet (fail); try go_wp2)
           go_ret
           exact ⟨by first | rfl | (simp [*] <;> rfl), by repeat (first | (with_reducible first | exact HB.out | apply qh_ | apply qc_ | apply qf_ | refine qk_ ?_ (by assumption)) | exact HB.out)⟩
          ·rw [if_neg c24] at H
           have c24b0 : (a1 == 0) = false := beq_eq_false_iff_ne.mpr c24
           have c24b1 : (a1 != 0) = true := bne_iff_ne.mpr c24
           by_cases c26 : ((qj_ l0 a1).f0) = 5
           ·rw [if_pos c26] at H
            have c26b0 : (((qj_ l0 a1).f0) == 5) = true := beq_iff_eq.mpr c26
            have c26b1 : (((qj_ l0 a1).f0) != 5) = false := bne_eq_false_iff_eq.mpr c26
            clear c26
            have HC27 := Aside0.mk H
            clear H
            have hcz28_0 := qg_ BK107 0 (.int .i64 ((qj_ l0 a1).f0)) rfl
            have hcz28_1 := qg_ BK107 1 (.int .i64 ((qj_ l0 a1).f1)) rfl
            have hcz28_2 := qg_ BK107 2 (.int .i64 ((qj_ l0 a1).f2)) rfl
            have hcz28_3 := qg_ BK107 3 (.int .i64 ((qj_ l0 a1).f3)) rfl
            have hfz28_0 := qd_ BK107 0
            have hfz28_1 := qd_ BK107 1
            have hfz28_2 := qd_ BK107 2
            have hfz28_3 := qd_ BK107 3
            go_upto_region 13 with (fail)
            repeat (go_quiet (fail); go_upto_region 13 with (fail))
            go_cut [55] (fun v55 wc => ∃ (kq : Nat) (x55_26 : Bool), v55 = .bool x55_26 ∧ Aside0 (qo_.j2 kq x55_26 = some r) ∧ Aside0 (kq ≤ kj11) ∧ Aside0 (wc.heap[gb107]? = some (.cells #[.int .i64 ((qj_ l0 a1).f0), .int .i64 ((qj_ l0 a1).f1), .int .i64 ((qj_ l0 a1).f2), .int .i64 ((qj_ l0 a1).f3)] 47 (0, 0))) ∧ Aside0 (Below w.heap.size w wc))
            case first =>
             have H := HC27.out
             clear HC27
             by_cases c29 : ((qj_ l0 a1).f2) = (wrap64 (a1 - 1))
             ·rw [if_pos c29] at H
              have c29b0 : (((qj_ l0 a1).f2) == (wrap64 (a1 - 1))) = true := beq_iff_eq.mpr c29
              have c29b1 : (((qj_ l0 a1).f2) != (wrap64 (a1 - 1))) = false := bne_eq_false_iff_eq.mpr c29
              clear c29
              (first | rw [c29b0] | (simp only [i64_w, i32_w]; rw [c29b0]) | skip)
              have H' := Aside0.mk H
              clear H
              have hcz30_0 := qg_ BK107 0 (.int .i64 ((qj_ l0 a1).f0)) rfl
              have hcz30_1 := qg_ BK107 1 (.int .i64 ((qj_ l0 a1).f1)) rfl
              have hcz30_2 := qg_ BK107 2 (.int .i64 ((qj_ l0 a1).f2)) rfl
              have hcz30_3 := qg_ BK107 3 (.int .i64 ((qj_ l0 a1).f3)) rfl
              have hfz30_0 := qd_ BK107 0
              have hfz30_1 := qd_ BK107 1
              have hfz30_2 := qd_ BK107 2
              have hfz30_3 := qd_ BK107 3
              go_wp2
              repeat (go_quiet (fail); try go_wp2)
              go_meet
              case rel => exact ⟨_, ((((qj_ l0 a1).f3) != 0)), (by first | rfl | (simp [*]; done)), H', ⟨by have := HJ4.out; have := HJ11.out; first | omega | exact Nat.le_refl _⟩, ⟨by (with_reducible repeat first | apply qa_ | apply qb_ | apply blk_alloc); exact BK107.out⟩, ⟨by repeat (first | (with_reducible first | exact HB.out | apply qh_ | apply qc_ | apply qf_ | refine qk_ ?_ (by assumption)) | exact HB.out)⟩⟩
             ·rw [if_neg c29] at H
              have c29b0 : (((qj_ l0 a1).f2) == (wrap64 (a1 - 1))) = false := beq_eq_false_iff_ne.mpr c29
              have c29b1 : (((qj_ l0 a1).f2) != (wrap64 (a1 - 1))) = true := bne_iff_ne.mpr c29
              (first | rw [c29b0] | (simp only [i64_w, i32_w]; rw [c29b0]) | skip)
              have H' := Aside0.mk H
              clear H
              have hcz31_0 := qg_ BK107 0 (.int .i64 ((qj_ l0 a1).f0)) rfl
              have hcz31_1 := qg_ BK107 1 (.int .i64 ((qj_ l0 a1).f1)) rfl
              have hcz31_2 := qg_ BK107 2 (.int .i64 ((qj_ l0 a1).f2)) rfl
              have hcz31_3 := qg_ BK107 3 (.int .i64 ((qj_ l0 a1).f3)) rfl
              have hfz31_0 := qd_ BK107 0
              have hfz31_1 := qd_ BK107 1
              have hfz31_2 := qd_ BK107 2
              have hfz31_3 := qd_ BK107 3
              go_wp2
              repeat (go_quiet (fail); try go_wp2)
              go_meet
              case rel => exact ⟨_, (true), (by first | rfl | (simp [*]; done)), H', ⟨by have := HJ4.out; have := HJ11.out; first | omega | exact Nat.le_refl _⟩, ⟨by (with_reducible repeat first | apply qa_ | apply qb_ | apply blk_alloc); exact BK107.out⟩, ⟨by repeat (first | (with_reducible first | exact HB.out | apply qh_ | apply qc_ | apply qf_ | refine qk_ ?_ (by assumption)) | exact HB.out)⟩⟩
            case rest =>
             clear HC27
             obtain ⟨kq, x55_26, rfl, HA, HJ26, BK107, HB⟩ := hcut
             cases kq with
             | zero => exact absurd HA.out (by simp [qo_.j2])
             | succ kj26 =>
              have H := HA.out
              clear HA
              simp only [qo_.j2] at H
              by_cases c32 : x55_26 = true
              ·subst c32
               have H1 : (some 5) = some r := by rw [if_pos rfl] at H; exact H
               clear H
               have H := H1
               clear H1
               obtain rfl := Option.some.inj H
               go_wp2
               repeat (go_quiet (fail); try go_wp2)
               go_ret
               exact ⟨by first | rfl | (simp [*] <;> rfl), by repeat (first | (with_reducible first | exact HB.out | apply qh_ | apply qc_ | apply qf_ | refine qk_ ?_ (by assumption)) | exact HB.out)⟩
              ·replace c32 := Bool.eq_false_iff.mpr c32
               subst c32
               have H1 : (some 0) = some r := by rw [if_neg (show ¬ (false = true) by decide)] at H; exact H
               clear H
               have H := H1
               clear H1
               obtain rfl := Option.some.inj H
               go_wp2
               repeat (go_quiet (fail); try go_wp2)
               go_ret
               exact ⟨by first | rfl | (simp [*] <;> rfl), by repeat (first | (with_reducible first | exact HB.out | apply qh_ | apply qc_ | apply qf_ | refine qk_ ?_ (by assumption)) | exact HB.out)⟩
           ·rw [if_neg c26] at H
            have c26b0 : (((qj_ l0 a1).f0) == 5) = false := beq_eq_false_iff_ne.mpr c26
            have c26b1 : (((qj_ l0 a1).f0) != 5) = true := bne_iff_ne.mpr c26
            replace H := Option.bind_eq_some_iff.mp H
            obtain ⟨t109, A330, H⟩ := H
            replace H : (if ((qj_ l0 a1).f3) = (wrap64 (a1 - 1)) then (if (wrap64 ((wrap64 (a1 - 1)) - t109)) < 0 then (some 5) else (if ((qj_ l0 a1).f2) = (wrap64 ((wrap64 (a1 - 1)) - t109)) then (some 0) else (some 5))) else (some 5)) = some r := H
            have A33 := Aside0.mk A330
            clear A330
            by_cases c34 : ((qj_ l0 a1).f3) = (wrap64 (a1 - 1))
            ·rw [if_pos c34] at H
             have c34b0 : (((qj_ l0 a1).f3) == (wrap64 (a1 - 1))) = true := beq_iff_eq.mpr c34
             have c34b1 : (((qj_ l0 a1).f3) != (wrap64 (a1 - 1))) = false := bne_eq_false_iff_eq.mpr c34
             clear c34
             by_cases c35 : (wrap64 ((wrap64 (a1 - 1)) - t109)) < 0
             ·rw [if_pos c35] at H
              have c35b0 : decide ((wrap64 ((wrap64 (a1 - 1)) - t109)) < 0) = true := decide_eq_true c35
              clear c35
              obtain rfl := Option.some.inj H
              have hcz36_0 := qg_ BK107 0 (.int .i64 ((qj_ l0 a1).f0)) rfl
              have hcz36_1 := qg_ BK107 1 (.int .i64 ((qj_ l0 a1).f1)) rfl
              have hcz36_2 := qg_ BK107 2 (.int .i64 ((qj_ l0 a1).f2)) rfl
              have hcz36_3 := qg_ BK107 3 (.int .i64 ((qj_ l0 a1).f3)) rfl
              have hfz36_0 := qd_ BK107 0
              have hfz36_1 := qd_ BK107 1
              have hfz36_2 := qd_ BK107 2
              have hfz36_3 := qd_ BK107 3
              go_wp2_with (first | (go_at_call 22; (with_reducible refine (qt_.calls kj11 _ _ l0 (wrap64 (a1 - 1)) t109 _ ?side1 ?side2 A33.out).mono ?_); (case side1 => repeat (first | exact (Kd.C_below HR0.out HB.out) | (with_reducible refine Kd.C_alloc ?_ _) | (with_reducible refine Kd.C_drewN ?_ _) | (with_reducible refine Kd.C_drew ?_))); (case side2 => exact HC0.out); rintro e w37 ⟨rfl, hb⟩; replace BK107 := Aside0.mk (ql_ BK107 (by (with_reducible repeat first | apply qa_ | apply qb_ | apply blk_alloc); exact BK107.out) hb); replace HB := Aside0.mk (qq_ (by repeat (first | (with_reducible first | exact HB.out | apply qh_ | apply qc_ | apply qf_ | refine qk_ ?_ (by assumption)) | exact HB.out)) hb); (try clear hb); have hcz38_0 := qg_ BK107 0 (.int .i64 ((qj_ l0 a1).f0)) rfl; have hcz38_1 := qg_ BK107 1 (.int .i64 ((qj_ l0 a1).f1)) rfl; have hcz38_2 := qg_ BK107 2 (.int .i64 ((qj_ l0 a1).f2)) rfl; have hcz38_3 := qg_ BK107 3 (.int .i64 ((qj_ l0 a1).f3)) rfl; have hfz38_0 := qd_ BK107 0; have hfz38_1 := qd_ BK107 1; have hfz38_2 := qd_ BK107 2; have hfz38_3 := qd_ BK107 3))
              go_ret
              exact ⟨by first | rfl | (simp [*] <;> rfl), by repeat (first | (with_reducible first | exact HB.out | apply qh_ | apply qc_ | apply qf_ | refine qk_ ?_ (by assumption)) | exact HB.out)⟩
             ·rw [if_neg c35] at H
              have c35b0 : decide ((wrap64 ((wrap64 (a1 - 1)) - t109)) < 0) = false := decide_eq_false c35
              clear c35
              by_cases c39 : ((qj_ l0 a1).f2) = (wrap64 ((wrap64 (a1 - 1)) - t109))
              ·rw [if_pos c39] at H
               have c39b0 : (((qj_ l0 a1).f2) == (wrap64 ((wrap64 (a1 - 1)) - t109))) = true := beq_iff_eq.mpr c39
               have c39b1 : (((qj_ l0 a1).f2) != (wrap64 ((wrap64 (a1 - 1)) - t109))) = false := bne_eq_false_iff_eq.mpr c39
               clear c39
               obtain rfl := Option.some.inj H
               have hcz40_0 := qg_ BK107 0 (.int .i64 ((qj_ l0 a1).f0)) rfl
               have hcz40_1 := qg_ BK107 1 (.int .i64 ((qj_ l0 a1).f1)) rfl
               have hcz40_2 := qg_ BK107 2 (.int .i64 ((qj_ l0 a1).f2)) rfl
               have hcz40_3 := qg_ BK107 3 (.int .i64 ((qj_ l0 a1).f3)) rfl
               have hfz40_0 := qd_ BK107 0
               have hfz40_1 := qd_ BK107 1
               have hfz40_2 := qd_ BK107 2
               have hfz40_3 := qd_ BK107 3
               go_wp2_with (first | (go_at_call 22; (with_reducible refine (qt_.calls kj11 _ _ l0 (wrap64 (a1 - 1)) t109 _ ?side1 ?side2 A33.out).mono ?_); (case side1 => repeat (first | exact (Kd.C_below HR0.out HB.out) | (with_reducible refine Kd.C_alloc ?_ _) | (with_reducible refine Kd.C_drewN ?_ _) | (with_reducible refine Kd.C_drew ?_))); (case side2 => exact HC0.out); rintro e w41 ⟨rfl, hb⟩; replace BK107 := Aside0.mk (ql_ BK107 (by (with_reducible repeat first | apply qa_ | apply qb_ | apply blk_alloc); exact BK107.out) hb); replace HB := Aside0.mk (qq_ (by repeat (first | (with_reducible first | exact HB.out | apply qh_ | apply qc_ | apply qf_ | refine qk_ ?_ (by assumption)) | exact HB.out)) hb); (try clear hb); have hcz42_0 := qg_ BK107 0 (.int .i64 ((qj_ l0 a1).f0)) rfl; have hcz42_1 := qg_ BK107 1 (.int .i64 ((qj_ l0 a1).f1)) rfl; have hcz42_2 := qg_ BK107 2 (.int .i64 ((qj_ l0 a1).f2)) rfl; have hcz42_3 := qg_ BK107 3 (.int .i64 ((qj_ l0 a1).f3)) rfl; have hfz42_0 := qd_ BK107 0; have hfz42_1 := qd_ BK107 1; have hfz42_2 := qd_ BK107 2; have hfz42_3 := qd_ BK107 3))
               go_ret
               exact ⟨by first | rfl | (simp [*] <;> rfl), by repeat (first | (with_reducible first | exact HB.out | apply qh_ | apply qc_ | apply qf_ | refine qk_ ?_ (by assumption)) | exact HB.out)⟩
              ·rw [if_neg c39] at H
               have c39b0 : (((qj_ l0 a1).f2) == (wrap64 ((wrap64 (a1 - 1)) - t109))) = false := beq_eq_false_iff_ne.mpr c39
               have c39b1 : (((qj_ l0 a1).f2) != (wrap64 ((wrap64 (a1 - 1)) - t109))) = true := bne_iff_ne.mpr c39
               obtain rfl := Option.some.inj H
               have hcz43_0 := qg_ BK107 0 (.int .i64 ((qj_ l0 a1).f0)) rfl
               have hcz43_1 := qg_ BK107 1 (.int .i64 ((qj_ l0 a1).f1)) rfl
               have hcz43_2 := qg_ BK107 2 (.int .i64 ((qj_ l0 a1).f2)) rfl
               have hcz43_3 := qg_ BK107 3 (.int .i64 ((qj_ l0 a1).f3)) rfl
               have hfz43_0 := qd_ BK107 0
               have hfz43_1 := qd_ BK107 1
               have hfz43_2 := qd_ BK107 2
               have hfz43_3 := qd_ BK107 3
               go_wp2_with (first | (go_at_call 22; (with_reducible refine (qt_.calls kj11 _ _ l0 (wrap64 (a1 - 1)) t109 _ ?side1 ?side2 A33.out).mono ?_); (case side1 => repeat (first | exact (Kd.C_below HR0.out HB.out) | (with_reducible refine Kd.C_alloc ?_ _) | (with_reducible refine Kd.C_drewN ?_ _) | (with_reducible refine Kd.C_drew ?_))); (case side2 => exact HC0.out); rintro e w44 ⟨rfl, hb⟩; replace BK107 := Aside0.mk (ql_ BK107 (by (with_reducible repeat first | apply qa_ | apply qb_ | apply blk_alloc); exact BK107.out) hb); replace HB := Aside0.mk (qq_ (by repeat (first | (with_reducible first | exact HB.out | apply qh_ | apply qc_ | apply qf_ | refine qk_ ?_ (by assumption)) | exact HB.out)) hb); (try clear hb); have hcz45_0 := qg_ BK107 0 (.int .i64 ((qj_ l0 a1).f0)) rfl; have hcz45_1 := qg_ BK107 1 (.int .i64 ((qj_ l0 a1).f1)) rfl; have hcz45_2 := qg_ BK107 2 (.int .i64 ((qj_ l0 a1).f2)) rfl; have hcz45_3 := qg_ BK107 3 (.int .i64 ((qj_ l0 a1).f3)) rfl; have hfz45_0 := qd_ BK107 0; have hfz45_1 := qd_ BK107 1; have hfz45_2 := qd_ BK107 2; have hfz45_3 := qd_ BK107 3))
               go_ret
               exact ⟨by first | rfl | (simp [*] <;> rfl), by repeat (first | (with_reducible first | exact HB.out | apply qh_ | apply qc_ | apply qf_ | refine qk_ ?_ (by assumption)) | exact HB.out)⟩
            ·rw [if_neg c34] at H
             have c34b0 : (((qj_ l0 a1).f3) == (wrap64 (a1 - 1))) = false := beq_eq_false_iff_ne.mpr c34
             have c34b1 : (((qj_ l0 a1).f3) != (wrap64 (a1 - 1))) = true := bne_iff_ne.mpr c34
             obtain rfl := Option.some.inj H
             have hcz46_0 := qg_ BK107 0 (.int .i64 ((qj_ l0 a1).f0)) rfl
             have hcz46_1 := qg_ BK107 1 (.int .i64 ((qj_ l0 a1).f1)) rfl
             have hcz46_2 := qg_ BK107 2 (.int .i64 ((qj_ l0 a1).f2)) rfl
             have hcz46_3 := qg_ BK107 3 (.int .i64 ((qj_ l0 a1).f3)) rfl
             have hfz46_0 := qd_ BK107 0
             have hfz46_1 := qd_ BK107 1
             have hfz46_2 := qd_ BK107 2
             have hfz46_3 := qd_ BK107 3
             go_wp2_with (first | (go_at_call 22; (with_reducible refine (qt_.calls kj11 _ _ l0 (wrap64 (a1 - 1)) t109 _ ?side1 ?side2 A33.out).mono ?_); (case side1 => repeat (first | exact (Kd.C_below HR0.out HB.out) | (with_reducible refine Kd.C_alloc ?_ _) | (with_reducible refine Kd.C_drewN ?_ _) | (with_reducible refine Kd.C_drew ?_))); (case side2 => exact HC0.out); rintro e w47 ⟨rfl, hb⟩; replace BK107 := Aside0.mk (ql_ BK107 (by (with_reducible repeat first | apply qa_ | apply qb_ | apply blk_alloc); exact BK107.out) hb); replace HB := Aside0.mk (qq_ (by repeat (first | (with_reducible first | exact HB.out | apply qh_ | apply qc_ | apply qf_ | refine qk_ ?_ (by assumption)) | exact HB.out)) hb); (try clear hb); have hcz48_0 := qg_ BK107 0 (.int .i64 ((qj_ l0 a1).f0)) rfl; have hcz48_1 := qg_ BK107 1 (.int .i64 ((qj_ l0 a1).f1)) rfl; have hcz48_2 := qg_ BK107 2 (.int .i64 ((qj_ l0 a1).f2)) rfl; have hcz48_3 := qg_ BK107 3 (.int .i64 ((qj_ l0 a1).f3)) rfl; have hfz48_0 := qd_ BK107 0; have hfz48_1 := qd_ BK107 1; have hfz48_2 := qd_ BK107 2; have hfz48_3 := qd_ BK107 3))
             go_ret
             exact ⟨by first | rfl | (simp [*] <;> rfl), by repeat (first | (with_reducible first | exact HB.out | apply qh_ | apply qc_ | apply qf_ | refine qk_ ?_ (by assumption)) | exact HB.out)⟩
  ·rw [if_neg c4] at H
   exact absurd H (by simp)
 ·rw [if_neg c3] at H
  exact absurd H (by simp)

end Go.Proofs.YtblkkhddefnkpaaDoor.PPo
