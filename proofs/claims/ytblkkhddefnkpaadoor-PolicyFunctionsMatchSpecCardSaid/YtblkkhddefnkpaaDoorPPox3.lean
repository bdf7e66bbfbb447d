-- printed by drv.py (a program of this repo, over the kit's printer)
import Derived.Test.YtblkkhddefnkpaaDoorPPox0
import Derived.Test.YtblkkhddefnkpaaDoorPPox1
namespace Go.Proofs.YtblkkhddefnkpaaDoor.PPo
open Go.RowKit Go.Proofs.YtblkkhddefnkpaaDoorW.PrintWords Go.Proofs.YtblkkhddefnkpaaDoorW.PrintLast Go.Proofs.YtblkkhddefnkpaaDoorW.PrintMore
attribute [local go_sem] max2_int min2_int max_two min_two max_three min_three max_four min_four   -- for this text's walks alone
set_option linter.unusedVariables false
set_option linter.unusedSimpArgs false

/-! ### qu_: function 28 -/
mutual
def qu_.j0 : Nat → List (S62) → Int → Bool → Int → Int → Int → Int → Option (Int)
 | 0, _, _, _, _, _, _, _ => none
 | k + 1, x1, x5, x8, x102000, x102001, x102002, x102003 => if x8 = true then (some 4) else (if x102001 < 0 then (qu_.j1 k x1 x5 true x102000 x102001 x102002 x102003) else ((policy_highest.f x102000).bind fun t102 => (qu_.j1 k x1 x5 (decide (x102001 > t102)) x102000 x102001 x102002 x102003)))
def qu_.j1 : Nat → List (S62) → Int → Bool → Int → Int → Int → Int → Option (Int)
 | 0, _, _, _, _, _, _, _ => none
 | k + 1, x1, x5, x17, x102000, x102001, x102002, x102003 => if x17 = true then (some 3) else (if x102000 < 5 then (if x102002 = 0 then (if x102003 = 0 then (if x102000 = 5 then (qu_.j2 k x1 x5 (x102003 != 0) x102000 x102001 x102002 x102003) else (qu_.j2 k x1 x5 false x102000 x102001 x102002 x102003)) else (qu_.j2 k x1 x5 true x102000 x102001 x102002 x102003)) else (qu_.j2 k x1 x5 true x102000 x102001 x102002 x102003)) else (if x102000 = 5 then (qu_.j2 k x1 x5 (x102003 != 0) x102000 x102001 x102002 x102003) else (qu_.j2 k x1 x5 false x102000 x102001 x102002 x102003)))
def qu_.j2 : Nat → List (S62) → Int → Bool → Int → Int → Int → Int → Option (Int)
 | 0, _, _, _, _, _, _, _ => none
 | k + 1, x1, x5, x29, x102000, x102001, x102002, x102003 => if x29 = true then (some 5) else (if x102000 = 5 then (if x5 = 0 then (qu_.j3 k x1 x5 true x102000 x102001 x102002 x102003) else (qu_.j3 k x1 x5 (x102002 != (wrap64 (x5 - 1))) x102000 x102001 x102002 x102003)) else (qu_.j3 k x1 x5 false x102000 x102001 x102002 x102003))
def qu_.j3 : Nat → List (S62) → Int → Bool → Int → Int → Int → Int → Option (Int)
 | 0, _, _, _, _, _, _, _ => none
 | k + 1, x1, x5, x53, x102000, x102001, x102002, x102003 => if x53 = true then (some 5) else (if x102000 > 5 then (if x5 = 0 then (some 5) else (if x102003 = (wrap64 (x5 - 1)) then (if 0 ≤ (wrap64 (x5 - 1)) then (if (wrap64 (x5 - 1)) < (x1.length : Int) then (if x102002 = (wrap64 ((wrap64 (x5 - 1)) - ((rd_T62 x1 (wrap64 (x5 - 1))).f0))) then (if x102002 < 0 then (some 5) else (some 0)) else (some 5)) else (none)) else (none)) else (some 5))) else (some 0))
end
def qu_.f (k : Nat) (a0_0 : Int) (a0_1 : Int) (a0_2 : Int) (a0_3 : Int) (l1 : List (S62)) : Option (Int) := if a0_0 < 1 then (qu_.j0 k l1 (l1.length : Int) true a0_0 a0_1 a0_2 a0_3) else (qu_.j0 k l1 (l1.length : Int) (decide (a0_0 > 7)) a0_0 a0_1 a0_2 a0_3)
theorem qu_.mono_l : ∀ k, (∀ y0 y1 y2 y3 y4 y5 y6, LeO (qu_.j0 k y0 y1 y2 y3 y4 y5 y6) (qu_.j0 (k + 1) y0 y1 y2 y3 y4 y5 y6)) ∧ (∀ y0 y1 y2 y3 y4 y5 y6, LeO (qu_.j1 k y0 y1 y2 y3 y4 y5 y6) (qu_.j1 (k + 1) y0 y1 y2 y3 y4 y5 y6)) ∧ (∀ y0 y1 y2 y3 y4 y5 y6, LeO (qu_.j2 k y0 y1 y2 y3 y4 y5 y6) (qu_.j2 (k + 1) y0 y1 y2 y3 y4 y5 y6)) ∧ (∀ y0 y1 y2 y3 y4 y5 y6, LeO (qu_.j3 k y0 y1 y2 y3 y4 y5 y6) (qu_.j3 (k + 1) y0 y1 y2 y3 y4 y5 y6))
 | 0 => ⟨fun _ _ _ _ _ _ _ r h => by simp [qu_.j0] at h, fun _ _ _ _ _ _ _ r h => by simp [qu_.j1] at h, fun _ _ _ _ _ _ _ r h => by simp [qu_.j2] at h, fun _ _ _ _ _ _ _ r h => by simp [qu_.j3] at h⟩
 | k + 1 => by
  obtain ⟨ih0, ih1, ih2, ih3⟩ := qu_.mono_l k
  refine ⟨?_, ?_, ?_, ?_⟩
  ·intro y0 y1 y2 y3 y4 y5 y6
   unfold qu_.j0
   repeat' first
   | (with_reducible exact ih0 _ _ _ _ _ _ _)
   | (with_reducible exact ih1 _ _ _ _ _ _ _)
   | (with_reducible exact ih2 _ _ _ _ _ _ _)
   | (with_reducible exact ih3 _ _ _ _ _ _ _)
   | (with_reducible exact LeO.refl _)
   | (with_reducible exact LeO.none _)
   | (with_reducible refine LeO.ite ?_ ?_)
   | (with_reducible refine LeO.bind ?_ (fun _ => ?_))
   | exact ih0 _ _ _ _ _ _ _
   | exact ih1 _ _ _ _ _ _ _
   | exact ih2 _ _ _ _ _ _ _
   | exact ih3 _ _ _ _ _ _ _
   | exact LeO.none _
   | refine LeO.ite ?_ ?_
   | refine LeO.bind ?_ (fun _ => ?_)
  ·intro y0 y1 y2 y3 y4 y5 y6
   unfold qu_.j1
   repeat' first
   | (with_reducible exact ih0 _ _ _ _ _ _ _)
   | (with_reducible exact ih1 _ _ _ _ _ _ _)
   | (with_reducible exact ih2 _ _ _ _ _ _ _)
   | (with_reducible exact ih3 _ _ _ _ _ _ _)
   | (with_reducible exact LeO.refl _)
   | (with_reducible exact LeO.none _)
   | (with_reducible refine LeO.ite ?_ ?_)
   | (with_reducible refine LeO.bind ?_ (fun _ => ?_))
   | exact ih0 _ _ _ _ _ _ _
   | exact ih1 _ _ _ _ _ _ _
   | exact ih2 _ _ _ _ _ _ _
   | exact ih3 _ _ _ _ _ _ _
   | exact LeO.none _
   | refine LeO.ite ?_ ?_
   | refine LeO.bind ?_ (fun _ => ?_)
  ·intro y0 y1 y2 y3 y4 y5 y6
   unfold qu_.j2
   repeat' first
   | (with_reducible exact ih0 _ _ _ _ _ _ _)
   | (with_reducible exact ih1 _ _ _ _ _ _ _)
   | (with_reducible exact ih2 _ _ _ _ _ _ _)
   | (with_reducible exact ih3 _ _ _ _ _ _ _)
   | (with_reducible exact LeO.refl _)
   | (with_reducible exact LeO.none _)
   | (with_reducible refine LeO.ite ?_ ?_)
   | (with_reducible refine LeO.bind ?_ (fun _ => ?_))
   | exact ih0 _ _ _ _ _ _ _
   | exact ih1 _ _ _ _ _ _ _
   | exact ih2 _ _ _ _ _ _ _
   | exact ih3 _ _ _ _ _ _ _
   | exact LeO.none _
   | refine LeO.ite ?_ ?_
   | refine LeO.bind ?_ (fun _ => ?_)
  ·intro y0 y1 y2 y3 y4 y5 y6
   unfold qu_.j3
   repeat' first
   | (with_reducible exact ih0 _ _ _ _ _ _ _)
   | (with_reducible exact ih1 _ _ _ _ _ _ _)
   | (with_reducible exact ih2 _ _ _ _ _ _ _)
   | (with_reducible exact ih3 _ _ _ _ _ _ _)
   | (with_reducible exact LeO.refl _)
   | (with_reducible exact LeO.none _)
   | (with_reducible refine LeO.ite ?_ ?_)
   | (with_reducible refine LeO.bind ?_ (fun _ => ?_))
   | exact ih0 _ _ _ _ _ _ _
   | exact ih1 _ _ _ _ _ _ _
   | exact ih2 _ _ _ _ _ _ _
   | exact ih3 _ _ _ _ _ _ _
   | exact LeO.none _
   | refine LeO.ite ?_ ?_
   | refine LeO.bind ?_ (fun _ => ?_)
theorem qu_.mono : ∀ a0 a1 a2 a3 a4 k, LeO (qu_.f k a0 a1 a2 a3 a4) (qu_.f (k + 1) a0 a1 a2 a3 a4) := by
 intro a0 a1 a2 a3 a4 k
 obtain ⟨ih0, ih1, ih2, ih3⟩ := qu_.mono_l k
 unfold qu_.f
 repeat' first
   | (with_reducible exact ih0 _ _ _ _ _ _ _)
   | (with_reducible exact ih1 _ _ _ _ _ _ _)
   | (with_reducible exact ih2 _ _ _ _ _ _ _)
   | (with_reducible exact ih3 _ _ _ _ _ _ _)
   | (with_reducible exact LeO.refl _)
   | (with_reducible exact LeO.none _)
   | (with_reducible refine LeO.ite ?_ ?_)
   | (with_reducible refine LeO.bind ?_ (fun _ => ?_))
   | exact ih0 _ _ _ _ _ _ _
   | exact ih1 _ _ _ _ _ _ _
   | exact ih2 _ _ _ _ _ _ _
   | exact ih3 _ _ _ _ _ _ _
   | exact LeO.none _
   | refine LeO.ite ?_ ?_
   | refine LeO.bind ?_ (fun _ => ?_)
set_option maxHeartbeats 8000000 in
set_option maxRecDepth 100000 in
theorem qu_.calls (k : Nat) (a0_0 : Int) (a0_1 : Int) (a0_2 : Int) (a0_3 : Int) (A1 : Option Addr) (c1 : Nat) (l1 : List (S62)) (r : Int) (w : World) (hr1 : Kd.C k62 w A1 l1.length l1) (hc1 : l1.length ≤ c1) (h : qu_.f k a0_0 a0_1 a0_2 a0_3 l1 = some r) :
  Calls Tryd.prog 28 #[.agg #[.int .i64 a0_0, .int .i64 a0_1, .int .i64 a0_2, .int .i64 a0_3], .slice A1 l1.length c1] w fun e w' => e = .returned (.int .i64 r) ∧ Below w.heap.size w w' := by
 have hu47 := Tryd.underlying47
 have HR1 := Aside0.mk hr1
 have HC1 := Aside0.mk hc1
 clear hr1 hc1
 have HB := Aside0.mk (Below.refl w.heap.size w)
 have H : (if a0_0 < 1 then (qu_.j0 k l1 (l1.length : Int) true a0_0 a0_1 a0_2 a0_3) else (qu_.j0 k l1 (l1.length : Int) (decide (a0_0 > 7)) a0_0 a0_1 a0_2 a0_3)) = some r := h
 clear h
 have HC3 := Aside0.mk H
 clear H
 go_enter Tryd.func28, Tryd.ntmps28
 go_upto_region 2 with (first | ((with_reducible refine gate_dst (N := 2) rfl ?_); refine qE_ ?hg (N := 2) ?hd (cs := #[.int .i64 a0_0, .int .i64 a0_1, .int .i64 a0_2, .int .i64 a0_3]) (t := 47) ?hr ?_; (case hd => rfl); (case hg => rfl); (case hr => first | (go_simp; done) | (go_simp; rfl)); intro gb101 hg w4 hbox hb; have BK101 := Aside0.mk (hbox); have GW101 := Aside0.mk ((by rw [hg]; exact (qv_ (by repeat (first | (with_reducible first | exact HB.out | apply qh_ | apply qc_ | apply qf_) | exact HB.out))) : w.heap.size ≤ gb101)); have GE101 := Aside0.mk ((by rw [hg]; exact (qv_ (by repeat (first | (with_reducible first | exact HB.out | apply qh_ | apply qc_ | apply qf_) | exact HB.out))) : w.heap.size ≤ gb101)); replace HB := Aside0.mk (qq_ (by repeat (first | (with_reducible first | exact HB.out | apply qh_ | apply qc_ | apply qf_) | exact HB.out)) hb); clear hb hbox hg))
 (try simp only [Act.put, List.setIfInBounds_toArray, List.set_cons_zero, List.set_cons_succ])
 go_cut [8] (fun v8 wc => ∃ (kq : Nat) (x8_2 : Bool), v8 = .bool x8_2 ∧ Aside0 (qu_.j0 kq l1 (l1.length : Int) x8_2 a0_0 a0_1 a0_2 a0_3 = some r) ∧ Aside0 (kq ≤ k) ∧ Aside0 (wc.heap[gb101]? = some (.cells #[.int .i64 a0_0, .int .i64 a0_1, .int .i64 a0_2, .int .i64 a0_3] 47 (0, 0))) ∧ Aside0 (Below w.heap.size w wc))
 case first =>
  have H := HC3.out
  clear HC3
  by_cases c5 : a0_0 < 1
  ·rw [if_pos c5] at H
   have c5b0 : decide (a0_0 < 1) = true := decide_eq_true c5
   clear c5
   (first | rw [c5b0] | (simp only [i64_w, i32_w]; rw [c5b0]) | skip)
   have H' := Aside0.mk H
   clear H
   have hcz6_0 := qg_ BK101 0 (.int .i64 a0_0) rfl
   have hcz6_1 := qg_ BK101 1 (.int .i64 a0_1) rfl
   have hcz6_2 := qg_ BK101 2 (.int .i64 a0_2) rfl
   have hcz6_3 := qg_ BK101 3 (.int .i64 a0_3) rfl
   have hfz6_0 := qd_ BK101 0
   have hfz6_1 := qd_ BK101 1
   have hfz6_2 := qd_ BK101 2
   have hfz6_3 := qd_ BK101 3
   go_wp2
   repeat (go_quiet (fail); try go_wp2)
   go_meet
   case rel => exact ⟨_, (true), (by first | rfl | (simp [*]; done)), H', ⟨by first | omega | exact Nat.le_refl _⟩, ⟨by (with_reducible repeat first | apply qa_ | apply qb_ | apply blk_alloc); exact BK101.out⟩, ⟨by repeat (first | (with_reducible first | exact HB.out | apply qh_ | apply qc_ | apply qf_ | refine qk_ ?_ (by assumption)) | exact HB.out)⟩⟩
  ·rw [if_neg c5] at H
   have c5b0 : decide (a0_0 < 1) = false := decide_eq_false c5
   clear c5
   (first | rw [c5b0] | (simp only [i64_w, i32_w]; rw [c5b0]) | skip)
   have H' := Aside0.mk H
   clear H
   have hcz7_0 := qg_ BK101 0 (.int .i64 a0_0) rfl
   have hcz7_1 := qg_ BK101 1 (.int .i64 a0_1) rfl
   have hcz7_2 := qg_ BK101 2 (.int .i64 a0_2) rfl
   have hcz7_3 := qg_ BK101 3 (.int .i64 a0_3) rfl
   have hfz7_0 := qd_ BK101 0
   have hfz7_1 := qd_ BK101 1
   have hfz7_2 := qd_ BK101 2
   have hfz7_3 := qd_ BK101 3
   go_wp2
   repeat (go_quiet (fail); try go_wp2)
   go_meet
   case rel => exact ⟨_, (decide (a0_0 > 7)), (by first | rfl | (simp [*]; done)), H', ⟨by first | omega | exact Nat.le_refl _⟩, ⟨by (with_reducible repeat first | apply qa_ | apply qb_ | apply blk_alloc); exact BK101.out⟩, ⟨by repeat (first | (with_reducible first | exact HB.out | apply qh_ | apply qc_ | apply qf_ | refine qk_ ?_ (by assumption)) | exact HB.out)⟩⟩
 case rest =>
  clear HC3
  obtain ⟨kq, x8_2, rfl, HA, HJ2, BK101, HB⟩ := hcut
  cases kq with
  | zero => exact absurd HA.out (by simp [qu_.j0])
  | succ kj2 =>
   have H := HA.out
   clear HA
   simp only [qu_.j0] at H
   by_cases c8 : x8_2 = true
   ·subst c8
    have H1 : (some 4) = some r := by rw [if_pos rfl] at H; exact H
    clear H
    have H := H1
    clear H1
    obtain rfl := Option.some.inj H
    go_wp2
    repeat (go_quiet (fail); try go_wp2)
    go_ret
    exact ⟨by first | rfl | (simp [*] <;> rfl), by repeat (first | (with_reducible first | exact HB.out | apply qh_ | apply qc_ | apply qf_ | refine qk_ ?_ (by assumption)) | exact HB.out)⟩
   ·replace c8 := Bool.eq_false_iff.mpr c8
    subst c8
    have H1 : (if a0_1 < 0 then (qu_.j1 kj2 l1 (l1.length : Int) true a0_0 a0_1 a0_2 a0_3) else ((policy_highest.f a0_0).bind fun t102 => (qu_.j1 kj2 l1 (l1.length : Int) (decide (a0_1 > t102)) a0_0 a0_1 a0_2 a0_3))) = some r := by rw [if_neg (show ¬ (false = true) by decide)] at H; exact H
    clear H
    have H := H1
    clear H1
    have HC9 := Aside0.mk H
    clear H
    go_upto_region 4 with (fail)
    repeat (go_quiet (fail); go_upto_region 4 with (fail))
    go_cut [17] (fun v17 wc => ∃ (kq : Nat) (x17_8 : Bool), v17 = .bool x17_8 ∧ Aside0 (qu_.j1 kq l1 (l1.length : Int) x17_8 a0_0 a0_1 a0_2 a0_3 = some r) ∧ Aside0 (kq ≤ kj2) ∧ Aside0 (wc.heap[gb101]? = some (.cells #[.int .i64 a0_0, .int .i64 a0_1, .int .i64 a0_2, .int .i64 a0_3] 47 (0, 0))) ∧ Aside0 (Below w.heap.size w wc))
    case first =>
     have H := HC9.out
     clear HC9
     by_cases c10 : a0_1 < 0
     ·rw [if_pos c10] at H
      have c10b0 : decide (a0_1 < 0) = true := decide_eq_true c10
      clear c10
      (first | rw [c10b0] | (simp only [i64_w, i32_w]; rw [c10b0]) | skip)
      have H' := Aside0.mk H
      clear H
      have hcz11_0 := qg_ BK101 0 (.int .i64 a0_0) rfl
      have hcz11_1 := qg_ BK101 1 (.int .i64 a0_1) rfl
      have hcz11_2 := qg_ BK101 2 (.int .i64 a0_2) rfl
      have hcz11_3 := qg_ BK101 3 (.int .i64 a0_3) rfl
      have hfz11_0 := qd_ BK101 0
      have hfz11_1 := qd_ BK101 1
      have hfz11_2 := qd_ BK101 2
      have hfz11_3 := qd_ BK101 3
      go_wp2
      repeat (go_quiet (fail); try go_wp2)
      go_meet
      case rel => exact ⟨_, (true), (by first | rfl | (simp [*]; done)), H', ⟨by have := HJ2.out; first | omega | exact Nat.le_refl _⟩, ⟨by (with_reducible repeat first | apply qa_ | apply qb_ | apply blk_alloc); exact BK101.out⟩, ⟨by repeat (first | (with_reducible first | exact HB.out | apply qh_ | apply qc_ | apply qf_ | refine qk_ ?_ (by assumption)) | exact HB.out)⟩⟩
     ·rw [if_neg c10] at H
      have c10b0 : decide (a0_1 < 0) = false := decide_eq_false c10
      clear c10
      (first | rw [c10b0] | (simp only [i64_w, i32_w]; rw [c10b0]) | skip)
      replace H := Option.bind_eq_some_iff.mp H
      obtain ⟨t102, A120, H⟩ := H
      replace H : (qu_.j1 kj2 l1 (l1.length : Int) (decide (a0_1 > t102)) a0_0 a0_1 a0_2 a0_3) = some r := H
      have A12 := Aside0.mk A120
      clear A120
      have H' := Aside0.mk H
      clear H
      have hcz13_0 := qg_ BK101 0 (.int .i64 a0_0) rfl
      have hcz13_1 := qg_ BK101 1 (.int .i64 a0_1) rfl
      have hcz13_2 := qg_ BK101 2 (.int .i64 a0_2) rfl
      have hcz13_3 := qg_ BK101 3 (.int .i64 a0_3) rfl
      have hfz13_0 := qd_ BK101 0
      have hfz13_1 := qd_ BK101 1
      have hfz13_2 := qd_ BK101 2
      have hfz13_3 := qd_ BK101 3
      go_wp2_with (first | (go_at_call 41; (with_reducible refine (policy_highest.calls a0_0 t102 _ A12.out).mono ?_); rintro e w' ⟨rfl, ⟨nd, rfl⟩⟩; (try first | exact ⟨rfl, _, World.drewN_drewN _ _ _⟩ | exact ⟨rfl, _, Eq.trans (World.drewN_drewN _ _ _) (congrArg (World.drewN _) (Nat.add_assoc _ _ _))⟩)))
      repeat (go_quiet (first | (go_at_call 41; (with_reducible refine (policy_highest.calls a0_0 t102 _ A12.out).mono ?_); rintro e w' ⟨rfl, ⟨nd, rfl⟩⟩; (try first | exact ⟨rfl, _, World.drewN_drewN _ _ _⟩ | exact ⟨rfl, _, Eq.trans (World.drewN_drewN _ _ _) (congrArg (World.drewN _) (Nat.add_assoc _ _ _))⟩))); try go_wp2_with (first | (go_at_call 41; (with_reducible refine (policy_highest.calls a0_0 t102 _ A12.out).mono ?_); rintro e w' ⟨rfl, ⟨nd, rfl⟩⟩; (try first | exact ⟨rfl, _, World.drewN_drewN _ _ _⟩ | exact ⟨rfl, _, Eq.trans (World.drewN_drewN _ _ _) (congrArg (World.drewN _) (Nat.add_assoc _ _ _))⟩))))
      go_meet
      case rel => exact ⟨_, (decide (a0_1 > t102)), (by first | rfl | (simp [*]; done)), H', ⟨by have := HJ2.out; first | omega | exact Nat.le_refl _⟩, ⟨by (with_reducible repeat first | apply qa_ | apply qb_ | apply blk_alloc); exact BK101.out⟩, ⟨by repeat (first | (with_reducible first | exact HB.out | apply qh_ | apply qc_ | apply qf_ | refine qk_ ?_ (by assumption)) | exact HB.out)⟩⟩
    case rest =>
     clear HC9
     obtain ⟨kq, x17_8, rfl, HA, HJ8, BK101, HB⟩ := hcut
     cases kq with
     | zero => exact absurd HA.out (by simp [qu_.j1])
     | succ kj8 =>
      have H := HA.out
      clear HA
      simp only [qu_.j1] at H
      by_cases c14 : x17_8 = true
      ·subst c14
       have H1 : (some 3) = some r := by rw [if_pos rfl] at H; exact H
       clear H
       have H := H1
       clear H1
       obtain rfl := Option.some.inj H
       go_wp2
       repeat (go_quiet (fail); try go_wp2)
       go_ret
       exact ⟨by first | rfl | (simp [*] <;> rfl), by repeat (first | (with_reducible first | exact HB.out | apply qh_ | apply qc_ | apply qf_ | refine qk_ ?_ (by assumption)) | exact HB.out)⟩
      ·replace c14 := Bool.eq_false_iff.mpr c14
       subst c14
       have H1 : (if a0_0 < 5 then (if a0_2 = 0 then (if a0_3 = 0 then (if a0_0 = 5 then (qu_.j2 kj8 l1 (l1.length : Int) (a0_3 != 0) a0_0 a0_1 a0_2 a0_3) else (qu_.j2 kj8 l1 (l1.length : Int) false a0_0 a0_1 a0_2 a0_3)) else (qu_.j2 kj8 l1 (l1.length : Int) true a0_0 a0_1 a0_2 a0_3)) else (qu_.j2 kj8 l1 (l1.length : Int) true a0_0 a0_1 a0_2 a0_3)) else (if a0_0 = 5 then (qu_.j2 kj8 l1 (l1.length : Int) (a0_3 != 0) a0_0 a0_1 a0_2 a0_3) else (qu_.j2 kj8 l1 (l1.length : Int) false a0_0 a0_1 a0_2 a0_3))) = some r := by rw [if_neg (show ¬ (false = true) by decide)] at H; exact H
       clear H
       have H := H1
       clear H1
       have HC15 := Aside0.mk H
       clear H
       go_upto_region 6 with (fail)
       repeat (go_quiet (fail); go_upto_region 6 with (fail))
       go_cut [29] (fun v29 wc => ∃ (kq : Nat) (x29_14 : Bool), v29 = .bool x29_14 ∧ Aside0 (qu_.j2 kq l1 (l1.length : Int) x29_14 a0_0 a0_1 a0_2 a0_3 = some r) ∧ Aside0 (kq ≤ kj8) ∧ Aside0 (wc.heap[gb101]? = some (.cells #[.int .i64 a0_0, .int .i64 a0_1, .int .i64 a0_2, .int .i64 a0_3] 47 (0, 0))) ∧ Aside0 (Below w.heap.size w wc))
       case first =>
        have H := HC15.out
        clear HC15
        by_cases c16 : a0_0 < 5
        ·rw [if_pos c16] at H
         have c16b0 : decide (a0_0 < 5) = true := decide_eq_true c16
         clear c16
         (first | rw [c16b0] | (simp only [i64_w, i32_w]; rw [c16b0]) | skip)
         by_cases c17 : a0_2 = 0
         ·rw [if_pos c17] at H
          have c17b0 : (a0_2 == 0) = true := beq_iff_eq.mpr c17
          have c17b1 : (a0_2 != 0) = false := bne_eq_false_iff_eq.mpr c17
          clear c17
          by_cases c18 : a0_3 = 0
          ·rw [if_pos c18] at H
           have c18b0 : (a0_3 == 0) = true := beq_iff_eq.mpr c18
           have c18b1 : (a0_3 != 0) = false := bne_eq_false_iff_eq.mpr c18
           clear c18
           by_cases c19 : a0_0 = 5
           ·rw [if_pos c19] at H
            have c19b0 : (a0_0 == 5) = true := beq_iff_eq.mpr c19
            have c19b1 : (a0_0 != 5) = false := bne_eq_false_iff_eq.mpr c19
            clear c19
            have H' := Aside0.mk H
            clear H
            have hcz20_0 := qg_ BK101 0 (.int .i64 a0_0) rfl
            have hcz20_1 := qg_ BK101 1 (.int .i64 a0_1) rfl
            have hcz20_2 := qg_ BK101 2 (.int .i64 a0_2) rfl
            have hcz20_3 := qg_ BK101 3 (.int .i64 a0_3) rfl
            have hfz20_0 := qd_ BK101 0
            have hfz20_1 := qd_ BK101 1
            have hfz20_2 := qd_ BK101 2
            have hfz20_3 := qd_ BK101 3
            go_wp2
            repeat (go_quiet (fail); try go_wp2)
            go_meet
            case rel => exact ⟨_, ((a0_3 != 0)), (by first | rfl | (simp [*]; done)), H', ⟨by have := HJ2.out; have := HJ8.out; first | omega | exact Nat.le_refl _⟩, ⟨by (with_reducible repeat first | apply qa_ | apply qb_ | apply blk_alloc); exact BK101.out⟩, ⟨by repeat (first | (with_reducible first | exact HB.out | apply qh_ | apply qc_ | apply qf_ | refine qk_ ?_ (by assumption)) | exact HB.out)⟩⟩
           ·rw [if_neg c19] at H
            have c19b0 : (a0_0 == 5) = false := beq_eq_false_iff_ne.mpr c19
            have c19b1 : (a0_0 != 5) = true := bne_iff_ne.mpr c19
            have H' := Aside0.mk H
            clear H
            have hcz21_0 := qg_ BK101 0 (.int .i64 a0_0) rfl
            have hcz21_1 := qg_ BK101 1 (.int .i64 a0_1) rfl
            have hcz21_2 := qg_ BK101 2 (.int .i64 a0_2) rfl
            have hcz21_3 := qg_ BK101 3 (.int .i64 a0_3) rfl
            have hfz21_0 := qd_ BK101 0
            have hfz21_1 := qd_ BK101 1
            have hfz21_2 := qd_ BK101 2
            have hfz21_3 := qd_ BK101 3
            go_wp2
            repeat (go_quiet (fail); try go_wp2)
            go_meet
            case rel => exact ⟨_, (false), (by first | rfl | (simp [*]; done)), H', ⟨by have := HJ2.out; have := HJ8.out; first | omega | exact Nat.le_refl _⟩, ⟨by (with_reducible repeat first | apply qa_ | apply qb_ | apply blk_alloc); exact BK101.out⟩, ⟨by repeat (first | (with_reducible first | exact HB.out | apply qh_ | apply qc_ | apply qf_ | refine qk_ ?_ (by assumption)) | exact HB.out)⟩⟩
          ·rw [if_neg c18] at H
           have c18b0 : (a0_3 == 0) = false := beq_eq_false_iff_ne.mpr c18
           have c18b1 : (a0_3 != 0) = true := bne_iff_ne.mpr c18
           have H' := Aside0.mk H
           clear H
           have hcz22_0 := qg_ BK101 0 (.int .i64 a0_0) rfl
           have hcz22_1 := qg_ BK101 1 (.int .i64 a0_1) rfl
           have hcz22_2 := qg_ BK101 2 (.int .i64 a0_2) rfl
           have hcz22_3 := qg_ BK101 3 (.int .i64 a0_3) rfl
           have hfz22_0 := qd_ BK101 0
           have hfz22_1 := qd_ BK101 1
           have hfz22_2 := qd_ BK101 2
           have hfz22_3 := qd_ BK101 3
           go_wp2
           repeat (go_quiet (fail); try go_wp2)
           go_meet
           case rel => exact ⟨_, (true), (by first | rfl | (simp [*]; done)), H', ⟨by have := HJ2.out; have := HJ8.out; first | omega | exact Nat.le_refl _⟩, ⟨by (with_reducible repeat first | apply qa_ | apply qb_ | apply blk_alloc); exact BK101.out⟩, ⟨by repeat (first | (with_reducible first | exact HB.out | apply qh_ | apply qc_ | apply qf_ | refine qk_ ?_ (by assumption)) | exact HB.out)⟩⟩
         ·rw [if_neg c17] at H
          have c17b0 : (a0_2 == 0) = false := beq_eq_false_iff_ne.mpr c17
          have c17b1 : (a0_2 != 0) = true := bne_iff_ne.mpr c17
          have H' := Aside0.mk H
          clear H
          have hcz23_0 := qg_ BK101 0 (.int .i64 a0_0) rfl
          have hcz23_1 := qg_ BK101 1 (.int .i64 a0_1) rfl
          have hcz23_2 := qg_ BK101 2 (.int .i64 a0_2) rfl
          have hcz23_3 := qg_ BK101 3 (.int .i64 a0_3) rfl
          have hfz23_0 := qd_ BK101 0
          have hfz23_1 := qd_ BK101 1
          have hfz23_2 := qd_ BK101 2
          have hfz23_3 := qd_ BK101 3
          go_wp2
          repeat (go_quiet (fail); try go_wp2)
          go_meet
          case rel => exact ⟨_, (true), (by first | rfl | (simp [*]; done)), H', ⟨by have := HJ2.out; have := HJ8.out; first | omega | exact Nat.le_refl _⟩, ⟨by (with_reducible repeat first | apply qa_ | apply qb_ | apply blk_alloc); exact BK101.out⟩, ⟨by repeat (first | (with_reducible first | exact HB.out | apply qh_ | apply qc_ | apply qf_ | refine qk_ ?_ (by assumption)) | exact HB.out)⟩⟩
        ·rw [if_neg c16] at H
         have c16b0 : decide (a0_0 < 5) = false := decide_eq_false c16
         clear c16
         (first | rw [c16b0] | (simp only [i64_w, i32_w]; rw [c16b0]) | skip)
         by_cases c24 : a0_0 = 5
         ·rw [if_pos c24] at H
          have c24b0 : (a0_0 == 5) = true := beq_iff_eq.mpr c24
          have c24b1 : (a0_0 != 5) = false := bne_eq_false_iff_eq.mpr c24
          clear c24
          have H' := Aside0.mk H
          clear H
          have hcz25_0 := qg_ BK101 0 (.int .i64 a0_0) rfl
          have hcz25_1 := qg_ BK101 1 (.int .i64 a0_1) rfl
          have hcz25_2 := qg_ BK101 2 (.int .i64 a0_2) rfl
          have hcz25_3 := qg_ BK101 3 (.int .i64 a0_3) rfl
          have hfz25_0 := qd_ BK101 0
          have hfz25_1 := qd_ BK101 1
          have hfz25_2 := qd_ BK101 2
          have hfz25_3 := qd_ BK101 3
          go_wp2
          repeat (go_quiet (fail); try go_wp2)
          go_meet
          case rel => exact ⟨_, ((a0_3 != 0)), (by first | rfl | (simp [*]; done)), H', ⟨by have := HJ2.out; have := HJ8.out; first | omega | exact Nat.le_refl _⟩, ⟨by (with_reducible repeat first | apply qa_ | apply qb_ | apply blk_alloc); exact BK101.out⟩, ⟨by repeat (first | (with_reducible first | exact HB.out | apply qh_ | apply qc_ | apply qf_ | refine qk_ ?_ (by assumption)) | exact HB.out)⟩⟩
         ·rw [if_neg c24] at H
          have c24b0 : (a0_0 == 5) = false := beq_eq_false_iff_ne.mpr c24
          have c24b1 : (a0_0 != 5) = true := bne_iff_ne.mpr c24
          have H' := Aside0.mk H
          clear H
          have hcz26_0 := qg_ BK101 0 (.int .i64 a0_0) rfl
          have hcz26_1 := qg_ BK101 1 (.int .i64 a0_1) rfl
          have hcz26_2 := qg_ BK101 2 (.int .i64 a0_2) rfl
          have hcz26_3 := qg_ BK101 3 (.int .i64 a0_3) rfl
          have hfz26_0 := qd_ BK101 0
          have hfz26_1 := qd_ BK101 1
          have hfz26_2 := qd_ BK101 2
          have hfz26_3 := qd_ BK101 3
          go_wp2
          repeat (go_quiet (fail); try go_wp2)
          go_meet
          case rel => exact ⟨_, (false), (by first | rfl | (simp [*]; done)), H', ⟨by have := HJ2.out; have := HJ8.out; first | omega | exact Nat.le_refl _⟩, ⟨by (with_reducible repeat first | apply qa_ | apply qb_ | apply blk_alloc); exact BK101.out⟩, ⟨by repeat (first | (with_reducible first | exact HB.out | apply qh_ | apply qc_ | apply qf_ | refine qk_ ?_ (by assumption)) | exact HB.out)⟩⟩
       case rest =>
        clear HC15
        obtain ⟨kq, x29_14, rfl, HA, HJ14, BK101, HB⟩ := hcut
        cases kq with
        | zero => exact absurd HA.out (by simp [qu_.j2])
        | succ kj14 =>
         have H := HA.out
         clear HA
         simp only [qu_.j2] at H
         by_cases c27 : x29_14 = true
         ·subst c27
          have H1 : (some 5) = some r := by rw [if_pos rfl] at H; exact H
          clear H
          have H := H1
          clear H1
          obtain rfl := Option.some.inj H
          go_wp2
          repeat (go_quiet (fail); try go_wp2)
          go_ret
          exact ⟨by first | rfl | (simp [*] <;> rfl), by repeat (first | (with_reducible first | exact HB.out | apply qh_ | apply qc_ | apply qf_ | refine qk_ ?_ (by assumption)) | exact HB.out)⟩
         ·replace c27 := Bool.eq_false_iff.mpr c27
          subst c27
          have H1 : (if a0_0 = 5 then (if (l1.length : Int) = 0 then (qu_.j3 kj14 l1 (l1.length : Int) true a0_0 a0_1 a0_2 a0_3) else (qu_.j3 kj14 l1 (l1.length : Int) (a0_2 != (wrap64 ((l1.length : Int) - 1))) a0_0 a0_1 a0_2 a0_3)) else (qu_.j3 kj14 l1 (l1.length : Int) false a0_0 a0_1 a0_2 a0_3)) = some r := by rw [if_neg (show ¬ (false = true) by decide)] at H; exact H
          clear H
          have H := H1
          clear H1
          have HC28 := Aside0.mk H
          clear H
          go_upto_region 8 with (fail)
          repeat (go_quiet (fail); go_upto_region 8 with (fail))
          go_cut [53] (fun v53 wc => ∃ (kq : Nat) (x53_27 : Bool), v53 = .bool x53_27 ∧ Aside0 (qu_.j3 kq l1 (l1.length : Int) x53_27 a0_0 a0_1 a0_2 a0_3 = some r) ∧ Aside0 (kq ≤ kj14) ∧ Aside0 (wc.heap[gb101]? = some (.cells #[.int .i64 a0_0, .int .i64 a0_1, .int .i64 a0_2, .int .i64 a0_3] 47 (0, 0))) ∧ Aside0 (Below w.heap.size w wc))
          case first =>
           have H := HC28.out
           clear HC28
           by_cases c29 : a0_0 = 5
           ·rw [if_pos c29] at H
            have c29b0 : (a0_0 == 5) = true := beq_iff_eq.mpr c29
            have c29b1 : (a0_0 != 5) = false := bne_eq_false_iff_eq.mpr c29
            clear c29
            (first | rw [c29b0] | (simp only [i64_w, i32_w]; rw [c29b0]) | skip)
            by_cases c30 : (l1.length : Int) = 0
            ·rw [if_pos c30] at H
             have c30b0 : ((l1.length : Int) == 0) = true := beq_iff_eq.mpr c30
             have c30b1 : ((l1.length : Int) != 0) = false := bne_eq_false_iff_eq.mpr c30
             clear c30
             have H' := Aside0.mk H
             clear H
             have hcz31_0 := qg_ BK101 0 (.int .i64 a0_0) rfl
             have hcz31_1 := qg_ BK101 1 (.int .i64 a0_1) rfl
             have hcz31_2 := qg_ BK101 2 (.int .i64 a0_2) rfl
             have hcz31_3 := qg_ BK101 3 (.int .i64 a0_3) rfl
             have hfz31_0 := qd_ BK101 0
             have hfz31_1 := qd_ BK101 1
             have hfz31_2 := qd_ BK101 2
             have hfz31_3 := qd_ BK101 3
             go_wp2
             repeat (go_quiet (fail); try go_wp2)
             go_meet
             case rel => exact ⟨_, (true), (by first | rfl | (simp [*]; done)), H', ⟨by have := HJ2.out; have := HJ8.out; have := HJ14.out; first | omega | exact Nat.le_refl _⟩, ⟨by (with_reducible repeat first | apply qa_ | apply qb_ | apply blk_alloc); exact BK101.out⟩, ⟨by repeat (first | (with_reducible first | exact HB.out | apply qh_ | apply qc_ | apply qf_ | refine qk_ ?_ (by assumption)) | exact HB.out)⟩⟩
            ·rw [if_neg c30] at H
             have c30b0 : ((l1.length : Int) == 0) = false := beq_eq_false_iff_ne.mpr c30
             have c30b1 : ((l1.length : Int) != 0) = true := bne_iff_ne.mpr c30
             have c30b2 : ¬ (l1 = []) := fun h_ => c30 (by rw [h_]; rfl)
             have H' := Aside0.mk H
             clear H
             have hcz32_0 := qg_ BK101 0 (.int .i64 a0_0) rfl
             have hcz32_1 := qg_ BK101 1 (.int .i64 a0_1) rfl
             have hcz32_2 := qg_ BK101 2 (.int .i64 a0_2) rfl
             have hcz32_3 := qg_ BK101 3 (.int .i64 a0_3) rfl
             have hfz32_0 := qd_ BK101 0
             have hfz32_1 := qd_ BK101 1
             have hfz32_2 := qd_ BK101 2
             have hfz32_3 := qd_ BK101 3
             go_wp2
             repeat (go_quiet (fail); try go_wp2)
             go_meet
             case rel => exact ⟨_, ((a0_2 != (wrap64 ((l1.length : Int) - 1)))), (by first | rfl | (simp [*]; done)), H', ⟨by have := HJ2.out; have := HJ8.out; have := HJ14.out; first | omega | exact Nat.le_refl _⟩, ⟨by (with_reducible repeat first | apply qa_ | apply qb_ | apply blk_alloc); exact BK101.out⟩, ⟨by repeat (first | (with_reducible first | exact HB.out | apply qh_ | apply qc_ | apply qf_ | refine qk_ ?_ (by assumption)) | exact HB.out)⟩⟩
           ·rw [if_neg c29] at H
            have c29b0 : (a0_0 == 5) = false := beq_eq_false_iff_ne.mpr c29
            have c29b1 : (a0_0 != 5) = true := bne_iff_ne.mpr c29
            (first | rw [c29b0] | (simp only [i64_w, i32_w]; rw [c29b0]) | skip)
            have H' := Aside0.mk H
            clear H
            have hcz33_0 := qg_ BK101 0 (.int .i64 a0_0) rfl
            have hcz33_1 := qg_ BK101 1 (.int .i64 a0_1) rfl
            have hcz33_2 := qg_ BK101 2 (.int .i64 a0_2) rfl
            have hcz33_3 := qg_ BK101 3 (.int .i64 a0_3) rfl
            have hfz33_0 := qd_ BK101 0
            have hfz33_1 := qd_ BK101 1
            have hfz33_2 := qd_ BK101 2
            have hfz33_3 := qd_ BK101 3
            go_wp2
            repeat (go_quiet (fail); try go_wp2)
            go_meet
            case rel => exact ⟨_, (false), (by first | rfl | (simp [*]; done)), H', ⟨by have := HJ2.out; have := HJ8.out; have := HJ14.out; first | omega | exact Nat.le_refl _⟩, ⟨by (with_reducible repeat first | apply qa_ | apply qb_ | apply blk_alloc); exact BK101.out⟩, ⟨by repeat (first | (with_reducible first | exact HB.out | apply qh_ | apply qc_ | apply qf_ | refine qk_ ?_ (by assumption)) | exact HB.out)⟩⟩
          case rest =>
           clear HC28
           obtain ⟨kq, x53_27, rfl, HA, HJ27, BK101, HB⟩ := hcut
           cases kq with
           | zero => exact absurd HA.out (by simp [qu_.j3])
           | succ kj27 =>
            have H := HA.out
            clear HA
            simp only [qu_.j3] at H
            by_cases c34 : x53_27 = true
            ·subst c34
             have H1 : (some 5) = some r := by rw [if_pos rfl] at H; exact H
             clear H
             have H := H1
             clear H1
             obtain rfl := Option.some.inj H
             go_wp2
             repeat (go_quiet (fail); try go_wp2)
             go_ret
             exact ⟨by first | rfl | (simp [*] <;> rfl), by repeat (first | (with_reducible first | exact HB.out | apply qh_ | apply qc_ | apply qf_ | refine qk_ ?_ (by assumption)) | exact HB.out)⟩
            ·replace c34 := Bool.eq_false_iff.mpr c34
             subst c34
             have H1 : (if a0_0 > 5 then (if (l1.length : Int) = 0 then (some 5) else (if a0_3 = (wrap64 ((l1.length : Int) - 1)) then (if 0 ≤ (wrap64 ((l1.length : Int) - 1)) then (if (wrap64 ((l1.length : Int) - 1)) < (l1.length : Int) then (if a0_2 = (wrap64 ((wrap64 ((l1.length : Int) - 1)) - ((rd_T62 l1 (wrap64 ((l1.length : Int) - 1))).f0))) then (if a0_2 < 0 then (some 5) else (some 0)) else (some 5)) else (none)) else (none)) else (some 5))) else (some 0)) = some r := by rw [if_neg (show ¬ (false = true) by decide)] at H; exact H
             clear H
             have H := H1
             clear H1
             by_cases c35 : a0_0 > 5
             ·rw [if_pos c35] at H
              have c35b0 : decide (5 < a0_0) = true := decide_eq_true c35
              clear c35
              by_cases c36 : (l1.length : Int) = 0
              ·rw [if_pos c36] at H
               have c36b0 : ((l1.length : Int) == 0) = true := beq_iff_eq.mpr c36
               have c36b1 : ((l1.length : Int) != 0) = false := bne_eq_false_iff_eq.mpr c36
               clear c36
               obtain rfl := Option.some.inj H
               have hcz37_0 := qg_ BK101 0 (.int .i64 a0_0) rfl
               have hcz37_1 := qg_ BK101 1 (.int .i64 a0_1) rfl
               have hcz37_2 := qg_ BK101 2 (.int .i64 a0_2) rfl
               have hcz37_3 := qg_ BK101 3 (.int .i64 a0_3) rfl
               have hfz37_0 := qd_ BK101 0
               have hfz37_1 := qd_ BK101 1
               have hfz37_2 := qd_ BK101 2
               have hfz37_3 := qd_ BK101 3
               go_wp2
               repeat (go_quiet (fail); try go_wp2)
               go_ret
               exact ⟨by first | rfl | (simp [*] <;> rfl), by repeat (first | (with_reducible first | exact HB.out | apply qh_ | apply qc_ | apply qf_ | refine qk_ ?_ (by assumption)) | exact HB.out)⟩
              ·rw [if_neg c36] at H
               have c36b0 : ((l1.length : Int) == 0) = false := beq_eq_false_iff_ne.mpr c36
               have c36b1 : ((l1.length : Int) != 0) = true := bne_iff_ne.mpr c36
               have c36b2 : ¬ (l1 = []) := fun h_ => c36 (by rw [h_]; rfl)
               by_cases c38 : a0_3 = (wrap64 ((l1.length : Int) - 1))
               ·rw [if_pos c38] at H
                have c38b0 : (a0_3 == (wrap64 ((l1.length : Int) - 1))) = true := beq_iff_eq.mpr c38
                have c38b1 : (a0_3 != (wrap64 ((l1.length : Int) - 1))) = false := bne_eq_false_iff_eq.mpr c38
                clear c38
                obtain ⟨ji39, hji39⟩ : ∃ j_ : Int, (wrap64 ((l1.length : Int) - 1)) = j_ := ⟨_, rfl⟩
                replace H : (if 0 ≤ (ji39) then (if (ji39) < (l1.length : Int) then (if a0_2 = (wrap64 ((ji39) - ((rd_T62 l1 (ji39)).f0))) then (if a0_2 < 0 then (some 5) else (some 0)) else (some 5)) else (none)) else (none)) = some r := by first | (rw [hji39] at H; exact H) | (simp only [hji39] at H ⊢; exact H)
                (try rw [hji39] at c38b0)
                (try rw [hji39] at c38b1)
                have hji39w : (IntKind.i64.wrap ((l1.length : Int) - 1)) = ji39 := (i64_w _).trans hji39
                by_cases c40 : 0 ≤ (ji39)
                ·rw [if_pos c40] at H
                 have c40b0 : decide (0 ≤ (ji39)) = true := decide_eq_true c40
                 clear c40
                 by_cases c41 : (ji39) < (l1.length : Int)
                 ·rw [if_pos c41] at H
                  have c41b0 : decide ((ji39) < (l1.length : Int)) = true := decide_eq_true c41
                  clear c41
                  by_cases c42 : a0_2 = (wrap64 ((ji39) - ((rd_T62 l1 (ji39)).f0)))
                  ·rw [if_pos c42] at H
                   have c42b0 : (a0_2 == (wrap64 ((ji39) - ((rd_T62 l1 (ji39)).f0)))) = true := beq_iff_eq.mpr c42
                   have c42b1 : (a0_2 != (wrap64 ((ji39) - ((rd_T62 l1 (ji39)).f0)))) = false := bne_eq_false_iff_eq.mpr c42
                   clear c42
                   by_cases c43 : a0_2 < 0
                   ·rw [if_pos c43] at H
                    have c43b0 : decide (a0_2 < 0) = true := decide_eq_true c43
                    clear c43
                    obtain rfl := Option.some.inj H
                    have hcz44_0 := qg_ BK101 0 (.int .i64 a0_0) rfl
                    have hcz44_1 := qg_ BK101 1 (.int .i64 a0_1) rfl
                    have hcz44_2 := qg_ BK101 2 (.int .i64 a0_2) rfl
                    have hcz44_3 := qg_ BK101 3 (.int .i64 a0_3) rfl
                    have hfz44_0 := qd_ BK101 0
                    have hfz44_1 := qd_ BK101 1
                    have hfz44_2 := qd_ BK101 2
                    have hfz44_3 := qd_ BK101 3
                    have p103 : 0 ≤ ((ji39) : Int) := of_decide_eq_true (by assumption)
                    have q103 : (ji39) < (l1.length : Int) := of_decide_eq_true (by assumption)
                    obtain ⟨ad103, e103, hx103_0, hx103_1⟩ := at_T62 HR1.out (ji39) p103 q103
                    cases e103
                    replace hx103_0 := (HB.out.cell (World.block_lt_of_cell? w _ hx103_0)).trans hx103_0
                    replace hx103_1 := (HB.out.cell (World.block_lt_of_cell? w _ hx103_1)).trans hx103_1
                    replace p103 := eq_true p103
                    replace q103 := eq_true q103
                    go_wp2
                    repeat (go_quiet (fail); try go_wp2)
                    go_ret
                    exact ⟨by first | rfl | (simp [errW_none, errW_some] <;> rfl) | (simp only [← hji39]; first | rfl | (simp [errW_none, errW_some] <;> rfl)) | (simp [*, errW_none, errW_some] <;> rfl), by repeat (first | (with_reducible first | exact HB.out | apply qh_ | apply qc_ | apply qf_ | refine qk_ ?_ (by assumption)) | exact HB.out)⟩
                   ·rw [if_neg c43] at H
                    have c43b0 : decide (a0_2 < 0) = false := decide_eq_false c43
                    clear c43
                    obtain rfl := Option.some.inj H
                    have hcz45_0 := qg_ BK101 0 (.int .i64 a0_0) rfl
                    have hcz45_1 := qg_ BK101 1 (.int .i64 a0_1) rfl
                    have hcz45_2 := qg_ BK101 2 (.int .i64 a0_2) rfl
                    have hcz45_3 := qg_ BK101 3 (.int .i64 a0_3) rfl
                    have hfz45_0 := qd_ BK101 0
                    have hfz45_1 := qd_ BK101 1
                    have hfz45_2 := qd_ BK101 2
                    have hfz45_3 := qd_ BK101 3
                    have p103 : 0 ≤ ((ji39) : Int) := of_decide_eq_true (by assumption)
                    have q103 : (ji39) < (l1.length : Int) := of_decide_eq_true (by assumption)
                    obtain ⟨ad103, e103, hx103_0, hx103_1⟩ := at_T62 HR1.out (ji39) p103 q103
                    cases e103
                    replace hx103_0 := (HB.out.cell (World.block_lt_of_cell? w _ hx103_0)).trans hx103_0
                    replace hx103_1 := (HB.out.cell (World.block_lt_of_cell? w _ hx103_1)).trans hx103_1
                    replace p103 := eq_true p103
                    replace q103 := eq_true q103
                    go_wp2
                    repeat (go_quiet (fail); try go_wp2)
                    go_ret
                    exact ⟨by first | rfl | (simp [errW_none, errW_some] <;> rfl) | (simp only [← hji39]; first | rfl | (simp [errW_none, errW_some] <;> rfl)) | (simp [*, errW_none, errW_some] <;> rfl), by repeat (first | (with_reducible first | exact HB.out | apply qh_ | apply qc_ | apply qf_ | refine qk_ ?_ (by assumption)) | exact HB.out)⟩
                  ·rw [if_neg c42] at H
                   have c42b0 : (a0_2 == (wrap64 ((ji39) - ((rd_T62 l1 (ji39)).f0)))) = false := beq_eq_false_iff_ne.mpr c42
                   have c42b1 : (a0_2 != (wrap64 ((ji39) - ((rd_T62 l1 (ji39)).f0)))) = true := bne_iff_ne.mpr c42
                   obtain rfl := Option.some.inj H
                   have hcz46_0 := qg_ BK101 0 (.int .i64 a0_0) rfl
                   have hcz46_1 := qg_ BK101 1 (.int .i64 a0_1) rfl
                   have hcz46_2 := qg_ BK101 2 (.int .i64 a0_2) rfl
                   have hcz46_3 := qg_ BK101 3 (.int .i64 a0_3) rfl
                   have hfz46_0 := qd_ BK101 0
                   have hfz46_1 := qd_ BK101 1
                   have hfz46_2 := qd_ BK101 2
                   have hfz46_3 := qd_ BK101 3
                   have p103 : 0 ≤ ((ji39) : Int) := of_decide_eq_true (by assumption)
                   have q103 : (ji39) < (l1.length : Int) := of_decide_eq_true (by assumption)
                   obtain ⟨ad103, e103, hx103_0, hx103_1⟩ := at_T62 HR1.out (ji39) p103 q103
                   cases e103
                   replace hx103_0 := (HB.out.cell (World.block_lt_of_cell? w _ hx103_0)).trans hx103_0
                   replace hx103_1 := (HB.out.cell (World.block_lt_of_cell? w _ hx103_1)).trans hx103_1
                   replace p103 := eq_true p103
                   replace q103 := eq_true q103
                   go_wp2
                   repeat (go_quiet (fail); try go_wp2)
                   go_ret
                   exact ⟨by first | rfl | (simp [errW_none, errW_some] <;> rfl) | (simp only [← hji39]; first | rfl | (simp [errW_none, errW_some] <;> rfl)) | (simp [*, errW_none, errW_some] <;> rfl), by repeat (first | (with_reducible first | exact HB.out | apply qh_ | apply qc_ | apply qf_ | refine qk_ ?_ (by assumption)) | exact HB.out)⟩
                 ·rw [if_neg c41] at H
                  exact absurd H (by simp)
                ·rw [if_neg c40] at H
                 exact absurd H (by simp)
               ·rw [if_neg c38] at H
                have c38b0 : (a0_3 == (wrap64 ((l1.length : Int) - 1))) = false := beq_eq_false_iff_ne.mpr c38
                have c38b1 : (a0_3 != (wrap64 ((l1.length : Int) - 1))) = true := bne_iff_ne.mpr c38
                obtain rfl := Option.some.inj H
                have hcz47_0 := qg_ BK101 0 (.int .i64 a0_0) rfl
                have hcz47_1 := qg_ BK101 1 (.int .i64 a0_1) rfl
                have hcz47_2 := qg_ BK101 2 (.int .i64 a0_2) rfl
                have hcz47_3 := qg_ BK101 3 (.int .i64 a0_3) rfl
                have hfz47_0 := qd_ BK101 0
                have hfz47_1 := qd_ BK101 1
                have hfz47_2 := qd_ BK101 2
                have hfz47_3 := qd_ BK101 3
                go_wp2
                repeat (go_quiet (fail); try go_wp2)
                go_ret
                exact ⟨by first | rfl | (simp [*] <;> rfl), by repeat (first | (with_reducible first | exact HB.out | apply qh_ | apply qc_ | apply qf_ | refine qk_ ?_ (by assumption)) | exact HB.out)⟩
             ·rw [if_neg c35] at H
              have c35b0 : decide (5 < a0_0) = false := decide_eq_false c35
              clear c35
              obtain rfl := Option.some.inj H
              have hcz48_0 := qg_ BK101 0 (.int .i64 a0_0) rfl
              have hcz48_1 := qg_ BK101 1 (.int .i64 a0_1) rfl
              have hcz48_2 := qg_ BK101 2 (.int .i64 a0_2) rfl
              have hcz48_3 := qg_ BK101 3 (.int .i64 a0_3) rfl
              have hfz48_0 := qd_ BK101 0
              have hfz48_1 := qd_ BK101 1
              have hfz48_2 := qd_ BK101 2
              have hfz48_3 := qd_ BK101 3
              go_wp2
              repeat (go_quiet (fail); try go_wp2)
              go_ret
              exact ⟨by first | rfl | (simp [*] <;> rfl), by repeat (first | (with_reducible first | exact HB.out | apply qh_ | apply qc_ | apply qf_ | refine qk_ ?_ (by assumption)) | exact HB.out)⟩

end Go.Proofs.YtblkkhddefnkpaaDoor.PPo
