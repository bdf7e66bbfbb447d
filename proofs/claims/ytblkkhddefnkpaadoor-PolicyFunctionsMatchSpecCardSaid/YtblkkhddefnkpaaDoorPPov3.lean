-- printed by drv.py (a program of this repo, over the kit's printer)
import Derived.Test.YtblkkhddefnkpaaDoorPPox0
namespace Go.Proofs.YtblkkhddefnkpaaDoor.PPo
open Go.RowKit Go.Proofs.YtblkkhddefnkpaaDoorW.PrintWords Go.Proofs.YtblkkhddefnkpaaDoorW.PrintLast Go.Proofs.YtblkkhddefnkpaaDoorW.PrintMore
attribute [local go_sem] max2_int min2_int max_two min_two max_three min_three max_four min_four   -- for this text's walks alone
set_option linter.unusedVariables false
set_option linter.unusedSimpArgs false

/-! ### qt_: function 22 -/
mutual
def qt_.j0 : Nat → List (S47) → Int → Int → Bool → Option (Int)
 | 0, _, _, _, _ => none
 | k + 1, x0, x1, x6, x27 => if x27 = true then (some (wrap64 (x6 + 1))) else ((qt_.f k x0 (wrap64 ((wrap64 (x1 - 1)) - x6))).bind fun t105 => (if t105 < 0 then (some (-1)) else (some (wrap64 ((wrap64 (1 + t105)) + x6)))))
def qt_.f : Nat → List (S47) → Int → Option (Int)
 | 0, _, _ => none
 | k + 1, l0, a1 => if a1 < 0 then (some (-1)) else (if 0 ≤ a1 then (if a1 < (l0.length : Int) then (if ((qj_ l0 a1).f0) < 5 then (some 1) else ((qt_.f k l0 (wrap64 (a1 - 1))).bind fun t104 => (if t104 < 0 then (qt_.j0 k l0 a1 t104 true) else (qt_.j0 k l0 a1 t104 (((qj_ l0 a1).f0) == 5))))) else (none)) else (none))
end
theorem qt_.mono_l : ∀ k, (∀ y0 y1, LeO (qt_.f k y0 y1) (qt_.f (k + 1) y0 y1)) ∧ (∀ y0 y1 y2 y3, LeO (qt_.j0 k y0 y1 y2 y3) (qt_.j0 (k + 1) y0 y1 y2 y3))
 | 0 => ⟨fun _ _ r h => by simp [qt_.f] at h, fun _ _ _ _ r h => by simp [qt_.j0] at h⟩
 | k + 1 => by
  obtain ⟨ih0, ih1⟩ := qt_.mono_l k
  refine ⟨?_, ?_⟩
  ·intro y0 y1
   unfold qt_.f
   repeat' first
   | (with_reducible exact ih0 _ _)
   | (with_reducible exact ih1 _ _ _ _)
   | (with_reducible exact LeO.refl _)
   | (with_reducible exact LeO.none _)
   | (with_reducible refine LeO.ite ?_ ?_)
   | (with_reducible refine LeO.bind ?_ (fun _ => ?_))
   | exact ih0 _ _
   | exact ih1 _ _ _ _
   | exact LeO.none _
   | refine LeO.ite ?_ ?_
   | refine LeO.bind ?_ (fun _ => ?_)
  ·intro y0 y1 y2 y3
   unfold qt_.j0
   repeat' first
   | (with_reducible exact ih0 _ _)
   | (with_reducible exact ih1 _ _ _ _)
   | (with_reducible exact LeO.refl _)
   | (with_reducible exact LeO.none _)
   | (with_reducible refine LeO.ite ?_ ?_)
   | (with_reducible refine LeO.bind ?_ (fun _ => ?_))
   | exact ih0 _ _
   | exact ih1 _ _ _ _
   | exact LeO.none _
   | refine LeO.ite ?_ ?_
   | refine LeO.bind ?_ (fun _ => ?_)
theorem qt_.mono : ∀ a0 a1 k, LeO (qt_.f k a0 a1) (qt_.f (k + 1) a0 a1) := by
 intro a0 a1 k
 obtain ⟨ih0, ih1⟩ := qt_.mono_l k
 exact ih0 a0 a1
set_option maxHeartbeats 8000000 in
set_option maxRecDepth 100000 in
theorem qt_.calls (k : Nat) : ∀ (A0 : Option Addr) (c0 : Nat) (l0 : List (S47)) (a1 : Int) (r : Int) (w : World) (hr0 : Kd.C k47 w A0 l0.length l0) (hc0 : l0.length ≤ c0) (h : qt_.f k l0 a1 = some r),
  Calls Tryd.prog 22 #[.slice A0 l0.length c0, .int .i64 a1] w fun e w' => e = .returned (.int .i64 r) ∧ Below w.heap.size w w' := by
 induction k using Nat.strongRecOn with
 | _ k ih =>
 intro A0 c0 l0 a1 r w hr0 hc0 h
 cases k with
 | zero => exact absurd h (by simp [qt_.f])
 | succ k =>
 simp only [qt_.f] at h
 have hu47 := Tryd.underlying47
 have HR0 := Aside0.mk hr0
 have HC0 := Aside0.mk hc0
 clear hr0 hc0
 have HB := Aside0.mk (Below.refl w.heap.size w)
 have H : (if a1 < 0 then (some (-1)) else (if 0 ≤ a1 then (if a1 < (l0.length : Int) then (if ((qj_ l0 a1).f0) < 5 then (some 1) else ((qt_.f k l0 (wrap64 (a1 - 1))).bind fun t104 => (if t104 < 0 then (qt_.j0 k l0 a1 t104 true) else (qt_.j0 k l0 a1 t104 (((qj_ l0 a1).f0) == 5))))) else (none)) else (none))) = some r := h
 clear h
 by_cases c3 : a1 < 0
 ·rw [if_pos c3] at H
  have c3b0 : decide (a1 < 0) = true := decide_eq_true c3
  clear c3
  obtain rfl := Option.some.inj H
  go_enter Tryd.func22, Tryd.ntmps22
  go_wp2
  go_ret
  exact ⟨by first | rfl | (simp [*] <;> rfl), by repeat (first | (with_reducible first | exact HB.out | apply qh_ | apply qc_ | apply qf_) | exact HB.out)⟩
 ·rw [if_neg c3] at H
  have c3b0 : decide (a1 < 0) = false := decide_eq_false c3
  clear c3
  by_cases c4 : 0 ≤ a1
  ·rw [if_pos c4] at H
   have c4b0 : decide (0 ≤ a1) = true := decide_eq_true c4
   clear c4
   by_cases c5 : a1 < (l0.length : Int)
   ·rw [if_pos c5] at H
    have c5b0 : decide (a1 < (l0.length : Int)) = true := decide_eq_true c5
    clear c5
    by_cases c6 : ((qj_ l0 a1).f0) < 5
    ·rw [if_pos c6] at H
     have c6b0 : decide (((qj_ l0 a1).f0) < 5) = true := decide_eq_true c6
     clear c6
     obtain rfl := Option.some.inj H
     have p102 : 0 ≤ (a1 : Int) := of_decide_eq_true (by assumption)
     have q102 : a1 < (l0.length : Int) := of_decide_eq_true (by assumption)
     obtain ⟨ad102, e102, hx102_0, hx102_1, hx102_2, hx102_3⟩ := at_T47 HR0.out a1 p102 q102
     cases e102
     replace p102 := eq_true p102
     replace q102 := eq_true q102
     go_enter Tryd.func22, Tryd.ntmps22
     go_wp2_with (first | ((with_reducible refine gate_dst (N := 5) rfl ?_); refine qE_ ?hg (N := 5) ?hd (cs := #[.int .i64 0, .int .i64 0, .int .i64 0, .int .i64 0]) (t := 47) ?hr ?_; (case hd => rfl); (case hg => rfl); (case hr => first | (go_simp; done) | (go_simp; rfl)); intro gb103 hg w7 hbox hb; have BK103 := Aside0.mk (hbox); have GW103 := Aside0.mk ((by rw [hg]; exact (qv_ (by repeat (first | (with_reducible first | exact HB.out | apply qh_ | apply qc_ | apply qf_) | exact HB.out))) : w.heap.size ≤ gb103)); have GE103 := Aside0.mk ((by rw [hg]; exact (qv_ (by repeat (first | (with_reducible first | exact HB.out | apply qh_ | apply qc_ | apply qf_) | exact HB.out))) : w.heap.size ≤ gb103)); replace HB := Aside0.mk (qq_ (by repeat (first | (with_reducible first | exact HB.out | apply qh_ | apply qc_ | apply qf_) | exact HB.out)) hb); clear hb hbox hg; have hcz8_0 := qg_ BK103 0 (.int .i64 0) rfl; have hcz8_1 := qg_ BK103 1 (.int .i64 0) rfl; have hcz8_2 := qg_ BK103 2 (.int .i64 0) rfl; have hcz8_3 := qg_ BK103 3 (.int .i64 0) rfl; have hfz8_0 := qd_ BK103 0; have hfz8_1 := qd_ BK103 1; have hfz8_2 := qd_ BK103 2; have hfz8_3 := qd_ BK103 3))
     go_ret
     exact ⟨by first | rfl | (simp [*] <;> rfl), by repeat (first | (with_reducible first | exact HB.out | apply qh_ | apply qc_ | apply qf_ | refine qk_ ?_ (by assumption)) | exact HB.out)⟩
    ·rw [if_neg c6] at H
     have c6b0 : decide (((qj_ l0 a1).f0) < 5) = false := decide_eq_false c6
     clear c6
     replace H := Option.bind_eq_some_iff.mp H
     obtain ⟨t104, A90, H⟩ := H
     replace H : (if t104 < 0 then (qt_.j0 k l0 a1 t104 true) else (qt_.j0 k l0 a1 t104 (((qj_ l0 a1).f0) == 5))) = some r := H
     have A9 := Aside0.mk A90
     clear A90
     have HC10 := Aside0.mk H
     clear H
     have p102 : 0 ≤ (a1 : Int) := of_decide_eq_true (by assumption)
     have q102 : a1 < (l0.length : Int) := of_decide_eq_true (by assumption)
     obtain ⟨ad102, e102, hx102_0, hx102_1, hx102_2, hx102_3⟩ := at_T47 HR0.out a1 p102 q102
     cases e102
     replace p102 := eq_true p102
     replace q102 := eq_true q102
     go_enter Tryd.func22, Tryd.ntmps22
     go_upto_region 7 with (first | ((with_reducible refine gate_dst (N := 5) rfl ?_); refine qE_ ?hg (N := 5) ?hd (cs := #[.int .i64 0, .int .i64 0, .int .i64 0, .int .i64 0]) (t := 47) ?hr ?_; (case hd => rfl); (case hg => rfl); (case hr => first | (go_simp; done) | (go_simp; rfl)); intro gb103 hg w11 hbox hb; have BK103 := Aside0.mk (hbox); have GW103 := Aside0.mk ((by rw [hg]; exact (qv_ (by repeat (first | (with_reducible first | exact HB.out | apply qh_ | apply qc_ | apply qf_) | exact HB.out))) : w.heap.size ≤ gb103)); have GE103 := Aside0.mk ((by rw [hg]; exact (qv_ (by repeat (first | (with_reducible first | exact HB.out | apply qh_ | apply qc_ | apply qf_) | exact HB.out))) : w.heap.size ≤ gb103)); replace HB := Aside0.mk (qq_ (by repeat (first | (with_reducible first | exact HB.out | apply qh_ | apply qc_ | apply qf_) | exact HB.out)) hb); clear hb hbox hg; have hcz12_0 := qg_ BK103 0 (.int .i64 0) rfl; have hcz12_1 := qg_ BK103 1 (.int .i64 0) rfl; have hcz12_2 := qg_ BK103 2 (.int .i64 0) rfl; have hcz12_3 := qg_ BK103 3 (.int .i64 0) rfl; have hfz12_0 := qd_ BK103 0; have hfz12_1 := qd_ BK103 1; have hfz12_2 := qd_ BK103 2; have hfz12_3 := qd_ BK103 3) | ((with_reducible refine qs_ (f := 22) rfl ?_); refine goesL_ (some 20) rfl rfl Tryd.func22 (by kernel_rfl) rfl #[.slice (some ad102) l0.length c0, .int .i64 (wrap64 (a1 - 1))] rfl (by (try simp only [List.map_toArray]); first | done | rfl) ?_; (with_reducible refine (ih k (by omega) _ _ l0 (wrap64 (a1 - 1)) t104 _ ?side1 ?side2 A9.out).mono ?_); (case side1 => exact Kd.C_below HR0.out (by repeat (first | (with_reducible first | exact HB.out | apply qh_ | apply qc_ | apply qf_ | refine qk_ ?_ (by assumption)) | exact HB.out))); (case side2 => exact HC0.out); rintro e w13 ⟨rfl, hb⟩; refine ⟨_, rfl, ?_⟩; replace BK103 := Aside0.mk (qy_ (g := gb103) (o := .cells #[.int .i64 ((qj_ l0 a1).f0), .int .i64 ((qj_ l0 a1).f1), .int .i64 ((qj_ l0 a1).f2), .int .i64 ((qj_ l0 a1).f3)] 47 (0, 0)) (by (with_reducible repeat first | apply qa_ | apply qb_ | apply blk_alloc); refine qA_ (cs := #[.int .i64 ((qj_ l0 a1).f0), .int .i64 ((qj_ l0 a1).f1), .int .i64 ((qj_ l0 a1).f2), .int .i64 0]) ?_ 3 _ rfl; (with_reducible repeat first | apply qa_ | apply qb_ | apply blk_alloc); refine qA_ (cs := #[.int .i64 ((qj_ l0 a1).f0), .int .i64 ((qj_ l0 a1).f1), .int .i64 0, .int .i64 0]) ?_ 2 _ rfl; (with_reducible repeat first | apply qa_ | apply qb_ | apply blk_alloc); refine qA_ (cs := #[.int .i64 ((qj_ l0 a1).f0), .int .i64 0, .int .i64 0, .int .i64 0]) ?_ 1 _ rfl; (with_reducible repeat first | apply qa_ | apply qb_ | apply blk_alloc); refine qA_ (cs := #[.int .i64 0, .int .i64 0, .int .i64 0, .int .i64 0]) ?_ 0 _ rfl; (with_reducible repeat first | apply qa_ | apply qb_ | apply blk_alloc); exact BK103.out) hb); replace HB := Aside0.mk (qq_ (by repeat (first | (with_reducible first | exact HB.out | apply qh_ | apply qc_ | apply qf_ | refine qk_ ?_ (by assumption)) | exact HB.out)) hb); (try clear hb)))
     (try simp only [Act.put, List.setIfInBounds_toArray, List.set_cons_zero, List.set_cons_succ])
     go_cut [27] (fun v27 wc => ∃ (kq : Nat) (x27_9 : Bool), v27 = .bool x27_9 ∧ Aside0 (qt_.j0 kq l0 a1 t104 x27_9 = some r) ∧ Aside0 (kq ≤ k) ∧ Aside0 (wc.heap[gb103]? = some (.cells #[.int .i64 ((qj_ l0 a1).f0), .int .i64 ((qj_ l0 a1).f1), .int .i64 ((qj_ l0 a1).f2), .int .i64 ((qj_ l0 a1).f3)] 47 (0, 0))) ∧ Aside0 (Below w.heap.size w wc))
     case first =>
      have H := HC10.out
      clear HC10
      by_cases c14 : t104 < 0
      ·rw [if_pos c14] at H
       have c14b0 : decide (t104 < 0) = true := decide_eq_true c14
       clear c14
       (first | rw [c14b0] | (simp only [i64_w, i32_w]; rw [c14b0]) | skip)
       have H' := Aside0.mk H
       clear H
       go_wp2
       go_meet
       case rel => exact ⟨_, (true), (by first | rfl | (simp [*]; done)), H', ⟨by first | omega | exact Nat.le_refl _⟩, ⟨by (with_reducible repeat first | apply qa_ | apply qb_ | apply blk_alloc); exact BK103.out⟩, ⟨by repeat (first | (with_reducible first | exact HB.out | apply qh_ | apply qc_ | apply qf_ | refine qk_ ?_ (by assumption)) | exact HB.out)⟩⟩
      ·rw [if_neg c14] at H
       have c14b0 : decide (t104 < 0) = false := decide_eq_false c14
       clear c14
       (first | rw [c14b0] | (simp only [i64_w, i32_w]; rw [c14b0]) | skip)
       have H' := Aside0.mk H
       clear H
       have hcz15_0 := qg_ BK103 0 (.int .i64 ((qj_ l0 a1).f0)) rfl
       have hcz15_1 := qg_ BK103 1 (.int .i64 ((qj_ l0 a1).f1)) rfl
       have hcz15_2 := qg_ BK103 2 (.int .i64 ((qj_ l0 a1).f2)) rfl
       have hcz15_3 := qg_ BK103 3 (.int .i64 ((qj_ l0 a1).f3)) rfl
       have hfz15_0 := qd_ BK103 0
       have hfz15_1 := qd_ BK103 1
       have hfz15_2 := qd_ BK103 2
       have hfz15_3 := qd_ BK103 3
       go_wp2
       go_meet
       case rel => exact ⟨_, ((((qj_ l0 a1).f0) == 5)), (by first | rfl | (simp [*]; done)), H', ⟨by first | omega | exact Nat.le_refl _⟩, ⟨by (with_reducible repeat first | apply qa_ | apply qb_ | apply blk_alloc); exact BK103.out⟩, ⟨by repeat (first | (with_reducible first | exact HB.out | apply qh_ | apply qc_ | apply qf_ | refine qk_ ?_ (by assumption)) | exact HB.out)⟩⟩
     case rest =>
      clear HC10
      obtain ⟨kq, x27_9, rfl, HA, HJ9, BK103, HB⟩ := hcut
      cases kq with
      | zero => exact absurd HA.out (by simp [qt_.j0])
      | succ kj9 =>
       have H := HA.out
       clear HA
       simp only [qt_.j0] at H
       by_cases c16 : x27_9 = true
       ·subst c16
        have H1 : (some (wrap64 (t104 + 1))) = some r := by rw [if_pos rfl] at H; exact H
        clear H
        have H := H1
        clear H1
        obtain rfl := Option.some.inj H
        go_wp2
        go_ret
        exact ⟨by first | rfl | (simp [*] <;> rfl), by repeat (first | (with_reducible first | exact HB.out | apply qh_ | apply qc_ | apply qf_ | refine qk_ ?_ (by assumption)) | exact HB.out)⟩
       ·replace c16 := Bool.eq_false_iff.mpr c16
        subst c16
        have H1 : ((qt_.f kj9 l0 (wrap64 ((wrap64 (a1 - 1)) - t104))).bind fun t105 => (if t105 < 0 then (some (-1)) else (some (wrap64 ((wrap64 (1 + t105)) + t104))))) = some r := by rw [if_neg (show ¬ (false = true) by decide)] at H; exact H
        clear H
        have H := H1
        clear H1
        replace H := Option.bind_eq_some_iff.mp H
        obtain ⟨t105, A170, H⟩ := H
        replace H : (if t105 < 0 then (some (-1)) else (some (wrap64 ((wrap64 (1 + t105)) + t104)))) = some r := H
        have A17 := Aside0.mk A170
        clear A170
        by_cases c18 : t105 < 0
        ·rw [if_pos c18] at H
         have c18b0 : decide (t105 < 0) = true := decide_eq_true c18
         clear c18
         obtain rfl := Option.some.inj H
         go_wp2_with (first | ((with_reducible refine qs_ (f := 22) rfl ?_); refine goesL_ (some 35) rfl rfl Tryd.func22 (by kernel_rfl) rfl #[.slice (some ad102) l0.length c0, .int .i64 (wrap64 ((wrap64 (a1 - 1)) - t104))] rfl (by (try simp only [List.map_toArray]); first | done | rfl) ?_; (with_reducible refine (ih kj9 (by have := HJ9.out; omega) _ _ l0 (wrap64 ((wrap64 (a1 - 1)) - t104)) t105 _ ?side1 ?side2 A17.out).mono ?_); (case side1 => repeat (first | exact (Kd.C_below HR0.out HB.out) | (with_reducible refine Kd.C_alloc ?_ _) | (with_reducible refine Kd.C_drewN ?_ _) | (with_reducible refine Kd.C_drew ?_))); (case side2 => exact HC0.out); rintro e w19 ⟨rfl, hb⟩; refine ⟨_, rfl, ?_⟩; replace BK103 := Aside0.mk (ql_ BK103 (by (with_reducible repeat first | apply qa_ | apply qb_ | apply blk_alloc); exact BK103.out) hb); replace HB := Aside0.mk (qq_ (by repeat (first | (with_reducible first | exact HB.out | apply qh_ | apply qc_ | apply qf_ | refine qk_ ?_ (by assumption)) | exact HB.out)) hb); (try clear hb)))
         go_ret
         exact ⟨by first | rfl | (simp [*] <;> rfl), by repeat (first | (with_reducible first | exact HB.out | apply qh_ | apply qc_ | apply qf_ | refine qk_ ?_ (by assumption)) | exact HB.out)⟩
        ·rw [if_neg c18] at H
         have c18b0 : decide (t105 < 0) = false := decide_eq_false c18
         clear c18
         obtain rfl := Option.some.inj H
         go_wp2_with (first | ((with_reducible refine qs_ (f := 22) rfl ?_); refine goesL_ (some 35) rfl rfl Tryd.func22 (by kernel_rfl) rfl #[.slice (some ad102) l0.length c0, .int .i64 (wrap64 ((wrap64 (a1 - 1)) - t104))] rfl (by (try simp only [List.map_toArray]); first | done | rfl) ?_; (with_reducible refine (ih kj9 (by have := HJ9.out; omega) _ _ l0 (wrap64 ((wrap64 (a1 - 1)) - t104)) t105 _ ?side1 ?side2 A17.out).mono ?_); (case side1 => repeat (first | exact (Kd.C_below HR0.out HB.out) | (with_reducible refine Kd.C_alloc ?_ _) | (with_reducible refine Kd.C_drewN ?_ _) | (with_reducible refine Kd.C_drew ?_))); (case side2 => exact HC0.out); rintro e w20 ⟨rfl, hb⟩; refine ⟨_, rfl, ?_⟩; replace BK103 := Aside0.mk (ql_ BK103 (by (with_reducible repeat first | apply qa_ | apply qb_ | apply blk_alloc); exact BK103.out) hb); replace HB := Aside0.mk (qq_ (by repeat (first | (with_reducible first | exact HB.out | apply qh_ | apply qc_ | apply qf_ | refine qk_ ?_ (by assumption)) | exact HB.out)) hb); (try clear hb)))
         go_ret
         exact ⟨by first | rfl | (simp [*] <;> rfl), by repeat (first | (with_reducible first | exact HB.out | apply qh_ | apply qc_ | apply qf_ | refine qk_ ?_ (by assumption)) | exact HB.out)⟩
   ·rw [if_neg c5] at H
    exact absurd H (by simp)
  ·rw [if_neg c4] at H
   exact absurd H (by simp)

end Go.Proofs.YtblkkhddefnkpaaDoor.PPo
