-- printed by drv.py (a program of this repo, over the kit's printer)
import Derived.Test.YtblkkhddefnkpaaDoorPPox0
import Derived.Test.YtblkkhddefnkpaaDoorPPox1
import Derived.Test.YtblkkhddefnkpaaDoorPPov3
import Derived.Test.YtblkkhddefnkpaaDoorPPov5
import Derived.Test.YtblkkhddefnkpaaDoorPPov6
namespace Go.Proofs.YtblkkhddefnkpaaDoor.PPo
open Go.RowKit Go.Proofs.YtblkkhddefnkpaaDoorW.PrintWords Go.Proofs.YtblkkhddefnkpaaDoorW.PrintLast Go.Proofs.YtblkkhddefnkpaaDoorW.PrintMore
attribute [local go_sem] max2_int min2_int max_two min_two max_three min_three max_four min_four   -- for this text's walks alone
set_option linter.unusedVariables false
set_option linter.unusedSimpArgs false

/-! ### qr_: function 8 -/
def qr_.l0 : Nat → Int → Int → List (S47) → Option (Int × Int)
 | 0, _, _, _ => none
 | k + 1, x3, x4, x115000 => if x4 < x3 then ((qo_.f k x115000 x4).bind fun t120 => (if t120 = 0 then (qr_.l0 k x3 (wrap64 (x4 + 1)) x115000) else ((qo_.f k x115000 x4).bind fun t121 => ((qF_.f t121 x4).bind fun bt122 => (some (bt122.1, bt122.2)))))) else ((qt_.f k x115000 (wrap64 (x3 - 1))).bind fun t124 => (if t124 = x3 then ((changeforgeref7_Depth.f k x115000 (wrap64 (x3 - 1))).bind fun t127 => (if t127 > 12 then ((qF_.f 10 (-1)).bind fun bt128 => (some (bt128.1, bt128.2))) else ((qF_.f 0 0).bind fun bt130 => (some (bt130.1, bt130.2))))) else ((qF_.f 5 (-1)).bind fun bt125 => (some (bt125.1, bt125.2)))))
def qr_.f (k : Nat) (l0_0 : List (S47)) : Option (Int × Int) := if (l0_0.length : Int) = 0 then ((qF_.f 9 (-1)).bind fun bt116 => (some (bt116.1, bt116.2))) else (if (l0_0.length : Int) > 24 then ((qF_.f 2 (-1)).bind fun bt118 => (some (bt118.1, bt118.2))) else (qr_.l0 k (l0_0.length : Int) 0 l0_0))
theorem qr_.mono_l : ∀ k, (∀ y0 y1 y2, LeO (qr_.l0 k y0 y1 y2) (qr_.l0 (k + 1) y0 y1 y2))
 | 0 => fun _ _ _ r h => by simp [qr_.l0] at h
 | k + 1 => by
  have ih0 := qr_.mono_l k
  ·intro y0 y1 y2
   unfold qr_.l0
   repeat' first
   | (with_reducible exact ih0 _ _ _)
   | (with_reducible exact changeforgeref7_Depth.mono _ _ _)
   | (with_reducible exact qt_.mono _ _ _)
   | (with_reducible exact qo_.mono _ _ _)
   | (with_reducible exact LeO.refl _)
   | (with_reducible exact LeO.none _)
   | (with_reducible refine LeO.ite ?_ ?_)
   | (with_reducible refine LeO.bind ?_ (fun _ => ?_))
   | exact ih0 _ _ _
   | exact changeforgeref7_Depth.mono _ _ _
   | exact qt_.mono _ _ _
   | exact qo_.mono _ _ _
   | exact LeO.none _
   | refine LeO.ite ?_ ?_
   | refine LeO.bind ?_ (fun _ => ?_)
theorem qr_.mono : ∀ a0 k, LeO (qr_.f k a0) (qr_.f (k + 1) a0) := by
 intro a0 k
 have ih0 := qr_.mono_l k
 unfold qr_.f
 repeat' first
   | (with_reducible exact ih0 _ _ _)
   | (with_reducible exact changeforgeref7_Depth.mono _ _ _)
   | (with_reducible exact qt_.mono _ _ _)
   | (with_reducible exact qo_.mono _ _ _)
   | (with_reducible exact LeO.refl _)
   | (with_reducible exact LeO.none _)
   | (with_reducible refine LeO.ite ?_ ?_)
   | (with_reducible refine LeO.bind ?_ (fun _ => ?_))
   | exact ih0 _ _ _
   | exact changeforgeref7_Depth.mono _ _ _
   | exact qt_.mono _ _ _
   | exact qo_.mono _ _ _
   | exact LeO.none _
   | refine LeO.ite ?_ ?_
   | refine LeO.bind ?_ (fun _ => ?_)
set_option maxHeartbeats 8000000 in
set_option maxRecDepth 100000 in
theorem qr_.calls (k : Nat) (A0_0 : Option Addr) (c0_0 : Nat) (l0_0 : List (S47)) (r1 : Int) (r2 : Int) (w : World) (hr0_0 : Kd.C k47 w A0_0 l0_0.length l0_0) (hc0_0 : l0_0.length ≤ c0_0) (h : qr_.f k l0_0 = some (r1, r2)) :
  Calls Tryd.prog 8 #[.agg #[.slice A0_0 l0_0.length c0_0]] w fun e w' => e = .returned (.agg #[.int .i64 r1, .int .i64 r2]) ∧ Below w.heap.size w w' := by
 have hu24 := Tryd.underlying24
 have hu28 := Tryd.underlying28
 have HR0_0 := Aside0.mk hr0_0
 have HC0_0 := Aside0.mk hc0_0
 clear hr0_0 hc0_0
 have HB := Aside0.mk (Below.refl w.heap.size w)
 have H : (if (l0_0.length : Int) = 0 then ((qF_.f 9 (-1)).bind fun bt116 => (some (bt116.1, bt116.2))) else (if (l0_0.length : Int) > 24 then ((qF_.f 2 (-1)).bind fun bt118 => (some (bt118.1, bt118.2))) else (qr_.l0 k (l0_0.length : Int) 0 l0_0))) = some (r1, r2) := h
 clear h
 go_enter Tryd.func8, Tryd.ntmps8
 go_upto_if 9 with (first | ((with_reducible refine gate_dst (N := 1) rfl ?_); refine qE_ ?hg (N := 1) ?hd (cs := #[.slice A0_0 l0_0.length c0_0]) (t := 24) ?hr ?_; (case hd => rfl); (case hg => rfl); (case hr => first | (go_simp; done) | (go_simp; rfl)); intro gb114 hg w4 hbox hb; have BK114 := Aside0.mk (hbox); have GW114 := Aside0.mk ((by rw [hg]; exact (qv_ (by repeat (first | (with_reducible first | exact HB.out | apply qh_ | apply qc_ | apply qf_) | exact HB.out))) : w.heap.size ≤ gb114)); have GE114 := Aside0.mk ((by rw [hg]; exact (qv_ (by repeat (first | (with_reducible first | exact HB.out | apply qh_ | apply qc_ | apply qf_) | exact HB.out))) : w.heap.size ≤ gb114)); replace HB := Aside0.mk (qq_ (by repeat (first | (with_reducible first | exact HB.out | apply qh_ | apply qc_ | apply qf_) | exact HB.out)) hb); clear hb hbox hg) | ((with_reducible refine gate_dst (N := 2) rfl ?_); refine qE_ ?hg (N := 2) ?hd (cs := #[.int .i64 0, .int .i64 0]) (t := 28) ?hr ?_; (case hd => rfl); (case hg => rfl); (case hr => first | (go_simp; done) | (go_simp; rfl)); intro gb115 hg w5 hbox hb; have BK115 := Aside0.mk (hbox); have GW115 := Aside0.mk ((by rw [hg]; exact (qv_ (by repeat (first | (with_reducible first | exact HB.out | apply qh_ | apply qc_ | apply qf_ | refine qk_ ?_ (by assumption)) | exact HB.out))) : w.heap.size ≤ gb115)); have GE115 := Aside0.mk ((by rw [hg]; exact (qv_ (by repeat (first | (with_reducible first | exact HB.out | apply qh_ | apply qc_ | apply qf_ | refine qk_ ?_ (by assumption)) | exact HB.out))) : w.heap.size ≤ gb115)); replace HB := Aside0.mk (qq_ (by repeat (first | (with_reducible first | exact HB.out | apply qh_ | apply qc_ | apply qf_ | refine qk_ ?_ (by assumption)) | exact HB.out)) hb); have NB114_115 := Aside0.mk ((by rw [hg]; exact Nat.ne_of_lt (qB_ (g := gb114) (o := .cells #[.slice A0_0 l0_0.length c0_0] 24 (0, 0)) (by (with_reducible repeat first | apply qa_ | apply qb_ | apply blk_alloc); exact BK114.out)) : gb114 ≠ gb115)); have NB115_114 := Aside0.mk ((by rw [hg]; exact Nat.ne_of_gt (qB_ (g := gb114) (o := .cells #[.slice A0_0 l0_0.length c0_0] 24 (0, 0)) (by (with_reducible repeat first | apply qa_ | apply qb_ | apply blk_alloc); exact BK114.out)) : gb115 ≠ gb114)); replace BK114 := Aside0.mk (ql_ BK114 (by (with_reducible repeat first | apply qa_ | apply qb_ | apply blk_alloc); exact BK114.out) hb); clear hb hbox hg; have hnb6 := NB114_115.out; have hnc6 := NB115_114.out; have hcz7_0 := qg_ BK114 0 (.slice A0_0 l0_0.length c0_0) rfl; have hfz7_0 := qd_ BK114 0))
 by_cases c2 : (l0_0.length : Int) = 0
 ·rw [if_pos c2] at H
  have c2b0 : ((l0_0.length : Int) == 0) = true := beq_iff_eq.mpr c2
  (first | rw [c2b0] | (simp only [i64_w, i32_w]; rw [c2b0]) | skip)
  have c2b1 : ((l0_0.length : Int) != 0) = false := bne_eq_false_iff_eq.mpr c2
  clear c2
  replace H := Option.bind_eq_some_iff.mp H
  obtain ⟨⟨t116, t117⟩, A30, H⟩ := H
  replace H : (some (t116, t117)) = some (r1, r2) := H
  have A3 := Aside0.mk A30
  clear A30
  simp only [Option.some.injEq, Prod.mk.injEq] at H
  obtain ⟨rfl, rfl⟩ := H
  go_wp2_with (first | ((with_reducible refine qs_ (f := 16) rfl ?_); refine goesL_ (some 10) rfl rfl Tryd.func16 (by kernel_rfl) rfl #[.int .i64 9, .int .i64 (-1)] rfl (by (try simp only [List.map_toArray]); first | done | rfl) ?_; (with_reducible refine (qF_.calls 9 (-1) t116 t117 _ A3.out).mono ?_); rintro e w8 ⟨rfl, hb⟩; refine ⟨_, rfl, ?_⟩; replace BK114 := Aside0.mk (ql_ BK114 (by (with_reducible repeat first | apply qa_ | apply qb_ | apply blk_alloc); exact BK114.out) hb); replace BK115 := Aside0.mk (ql_ BK115 (by (with_reducible repeat first | apply qa_ | apply qb_ | apply blk_alloc); exact BK115.out) hb); replace HB := Aside0.mk (qq_ (by repeat (first | (with_reducible first | exact HB.out | apply qh_ | apply qc_ | apply qf_ | refine qk_ ?_ (by assumption)) | exact HB.out)) hb); (try clear hb); have hcz9_0 := qg_ BK115 0 (.int .i64 0) rfl; have hcz9_1 := qg_ BK115 1 (.int .i64 0) rfl; have hfz9_0 := qd_ BK115 0; have hfz9_1 := qd_ BK115 1))
  refine bodyPost_ret (results_cell_row rfl _ _ gb115 28 #[.int .i64 t116, .int .i64 t117] (0, 0) _ rfl (by (with_reducible repeat first | apply qa_ | apply qb_ | apply blk_alloc); refine qA_ (cs := #[.int .i64 t116, .int .i64 0]) ?_ 1 _ rfl; (with_reducible repeat first | apply qa_ | apply qb_ | apply blk_alloc); refine qA_ (cs := #[.int .i64 0, .int .i64 0]) ?_ 0 _ rfl; (with_reducible repeat first | apply qa_ | apply qb_ | apply blk_alloc); exact BK115.out) Tryd.underlying28 rfl (by kernel_rfl)) rfl ?_
  exact ⟨by first | rfl | (simp [*] <;> rfl), by repeat (first | (with_reducible first | exact HB.out | apply qh_ | apply qc_ | apply qf_ | refine qk_ ?_ (by assumption)) | exact HB.out)⟩
 ·rw [if_neg c2] at H
  have c2b0 : ((l0_0.length : Int) == 0) = false := beq_eq_false_iff_ne.mpr c2
  (first | rw [c2b0] | (simp only [i64_w, i32_w]; rw [c2b0]) | skip)
  have c2b1 : ((l0_0.length : Int) != 0) = true := bne_iff_ne.mpr c2
  have c2b2 : ¬ (l0_0 = []) := fun h_ => c2 (by rw [h_]; rfl)
  by_cases c10 : (l0_0.length : Int) > 24
  ·rw [if_pos c10] at H
   have c10b0 : decide (24 < (l0_0.length : Int)) = true := decide_eq_true c10
   have c10b1 : decide (24 < l0_0.length) = true := decide_eq_true (by omega)
   clear c10
   replace H := Option.bind_eq_some_iff.mp H
   obtain ⟨⟨t118, t119⟩, A110, H⟩ := H
   replace H : (some (t118, t119)) = some (r1, r2) := H
   have A11 := Aside0.mk A110
   clear A110
   simp only [Option.some.injEq, Prod.mk.injEq] at H
   obtain ⟨rfl, rfl⟩ := H
   go_wp2_with (first | ((with_reducible refine qs_ (f := 16) rfl ?_); refine goesL_ (some 13) rfl rfl Tryd.func16 (by kernel_rfl) rfl #[.int .i64 2, .int .i64 (-1)] rfl (by (try simp only [List.map_toArray]); first | done | rfl) ?_; (with_reducible refine (qF_.calls 2 (-1) t118 t119 _ A11.out).mono ?_); rintro e w16 ⟨rfl, hb⟩; refine ⟨_, rfl, ?_⟩; replace BK114 := Aside0.mk (ql_ BK114 (by (with_reducible repeat first | apply qa_ | apply qb_ | apply blk_alloc); exact BK114.out) hb); replace BK115 := Aside0.mk (ql_ BK115 (by (with_reducible repeat first | apply qa_ | apply qb_ | apply blk_alloc); exact BK115.out) hb); replace HB := Aside0.mk (qq_ (by repeat (first | (with_reducible first | exact HB.out | apply qh_ | apply qc_ | apply qf_ | refine qk_ ?_ (by assumption)) | exact HB.out)) hb); (try clear hb); have hcz17_0 := qg_ BK115 0 (.int .i64 0) rfl; have hcz17_1 := qg_ BK115 1 (.int .i64 0) rfl; have hfz17_0 := qd_ BK115 0; have hfz17_1 := qd_ BK115 1))
   refine bodyPost_ret (results_cell_row rfl _ _ gb115 28 #[.int .i64 t118, .int .i64 t119] (0, 0) _ rfl (by (with_reducible repeat first | apply qa_ | apply qb_ | apply blk_alloc); refine qA_ (cs := #[.int .i64 t118, .int .i64 0]) ?_ 1 _ rfl; (with_reducible repeat first | apply qa_ | apply qb_ | apply blk_alloc); refine qA_ (cs := #[.int .i64 0, .int .i64 0]) ?_ 0 _ rfl; (with_reducible repeat first | apply qa_ | apply qb_ | apply blk_alloc); exact BK115.out) Tryd.underlying28 rfl (by kernel_rfl)) rfl ?_
   exact ⟨by first | rfl | (simp [*] <;> rfl), by repeat (first | (with_reducible first | exact HB.out | apply qh_ | apply qc_ | apply qf_ | refine qk_ ?_ (by assumption)) | exact HB.out)⟩
  ·rw [if_neg c10] at H
   have c10b0 : decide (24 < (l0_0.length : Int)) = false := decide_eq_false c10
   have c10b1 : decide (24 < l0_0.length) = false := decide_eq_false (by omega)
   clear c10
   have H' := Aside0.mk H
   clear H
   go_wp2
   go_loopg [4] k (fun kq v4 w' => ∃ (x4_1 : Int) (x116000_1 : Int) (x116001_1 : Int), v4 = .int .i64 x4_1 ∧ Aside0 (qr_.l0 kq (l0_0.length : Int) x4_1 l0_0 = some (r1, r2)) ∧ Aside0 (kq ≤ k) ∧ Aside0 (w'.heap[gb114]? = some (.cells #[(.slice A0_0 l0_0.length c0_0)] 24 (0, 0))) ∧ Aside0 (w'.heap[gb115]? = some (.cells #[.int .i64 x116000_1, .int .i64 x116001_1] 28 (0, 0))) ∧ Aside0 (Below w.heap.size w w'))
   case atStart => exact ⟨(0), (0), (0), (by first | rfl | (simp [*]; done)), H', ⟨Nat.le_refl _⟩, ⟨by (with_reducible repeat first | apply qa_ | apply qb_ | apply blk_alloc); exact BK114.out⟩, ⟨by (with_reducible repeat first | apply qa_ | apply qb_ | apply blk_alloc); exact BK115.out⟩, ⟨by repeat (first | (with_reducible first | exact HB.out | apply qh_ | apply qc_ | apply qf_ | refine qk_ ?_ (by assumption)) | exact HB.out)⟩⟩
   case round =>
    clear H'
    obtain ⟨x4_1, x116000_1, x116001_1, rfl, HA, HK1, BK114, BK115, HB⟩ := hrel
    cases gk with
    | zero => exact absurd HA.out (by simp [qr_.l0])
    | succ k1 =>
     have H := HA.out
     clear HA
     simp only [qr_.l0] at H
     by_cases c22 : x4_1 < (l0_0.length : Int)
     ·rw [if_pos c22] at H
      have c22b0 : decide (x4_1 < (l0_0.length : Int)) = true := decide_eq_true c22
      clear c22
      replace H := Option.bind_eq_some_iff.mp H
      obtain ⟨t120, A230, H⟩ := H
      replace H : (if t120 = 0 then (qr_.l0 k1 (l0_0.length : Int) (wrap64 (x4_1 + 1)) l0_0) else ((qo_.f k1 l0_0 x4_1).bind fun t121 => ((qF_.f t121 x4_1).bind fun bt122 => (some (bt122.1, bt122.2))))) = some (r1, r2) := H
      have A23 := Aside0.mk A230
      clear A230
      by_cases c24 : t120 = 0
      ·rw [if_pos c24] at H
       have c24b0 : (t120 == 0) = true := beq_iff_eq.mpr c24
       have c24b1 : (t120 != 0) = false := bne_eq_false_iff_eq.mpr c24
       clear c24
       have H' := Aside0.mk H
       clear H
       have hcz26_0 := qg_ BK114 0 (.slice A0_0 l0_0.length c0_0) rfl
       have hfz26_0 := qd_ BK114 0
       go_wp2_with (first | ((with_reducible refine qs_ (f := 21) rfl ?_); refine goesL_ (some 22) rfl rfl Tryd.func21 (by kernel_rfl) rfl #[.slice A0_0 l0_0.length c0_0, .int .i64 x4_1] rfl (by (try simp only [List.map_toArray]); first | done | rfl) ?_; (with_reducible refine (qo_.calls k1 _ _ l0_0 x4_1 t120 _ ?side1 ?side2 A23.out).mono ?_); (case side1 => repeat (first | exact (Kd.C_below HR0_0.out HB.out) | (with_reducible refine Kd.C_alloc ?_ _) | (with_reducible refine Kd.C_drewN ?_ _) | (with_reducible refine Kd.C_drew ?_))); (case side2 => exact HC0_0.out); rintro e w27 ⟨rfl, hb⟩; refine ⟨_, rfl, ?_⟩; replace BK114 := Aside0.mk (ql_ BK114 (by (with_reducible repeat first | apply qa_ | apply qb_ | apply blk_alloc); exact BK114.out) hb); replace BK115 := Aside0.mk (ql_ BK115 (by (with_reducible repeat first | apply qa_ | apply qb_ | apply blk_alloc); exact BK115.out) hb); replace HB := Aside0.mk (qq_ (by repeat (first | (with_reducible first | exact HB.out | apply qh_ | apply qc_ | apply qf_ | refine qk_ ?_ (by assumption)) | exact HB.out)) hb); (try clear hb)))
       go_roundg k1
       case measure => have := HK1.out; omega
       case rel => exact ⟨(wrap64 (x4_1 + 1)), (x116000_1), (x116001_1), (by first | rfl | (simp [*]; done)), H', ⟨by have := HK1.out; omega⟩, ⟨by (with_reducible repeat first | apply qa_ | apply qb_ | apply blk_alloc); exact BK114.out⟩, ⟨by (with_reducible repeat first | apply qa_ | apply qb_ | apply blk_alloc); exact BK115.out⟩, ⟨by repeat (first | (with_reducible first | exact HB.out | apply qh_ | apply qc_ | apply qf_ | refine qk_ ?_ (by assumption)) | exact HB.out)⟩⟩
      ·rw [if_neg c24] at H
       have c24b0 : (t120 == 0) = false := beq_eq_false_iff_ne.mpr c24
       have c24b1 : (t120 != 0) = true := bne_iff_ne.mpr c24
       replace H := Option.bind_eq_some_iff.mp H
       obtain ⟨t121, A280, H⟩ := H
       replace H : ((qF_.f t121 x4_1).bind fun bt122 => (some (bt122.1, bt122.2))) = some (r1, r2) := H
       have A28 := Aside0.mk A280
       clear A280
       replace H := Option.bind_eq_some_iff.mp H
       obtain ⟨⟨t122, t123⟩, A290, H⟩ := H
       replace H : (some (t122, t123)) = some (r1, r2) := H
       have A29 := Aside0.mk A290
       clear A290
       simp only [Option.some.injEq, Prod.mk.injEq] at H
       obtain ⟨rfl, rfl⟩ := H
       have hcz31_0 := qg_ BK114 0 (.slice A0_0 l0_0.length c0_0) rfl
       have hfz31_0 := qd_ BK114 0
       go_wp2_with (first | ((with_reducible refine qs_ (f := 21) rfl ?_); refine goesL_ (some 22) rfl rfl Tryd.func21 (by kernel_rfl) rfl #[.slice A0_0 l0_0.length c0_0, .int .i64 x4_1] rfl (by (try simp only [List.map_toArray]); first | done | rfl) ?_; (with_reducible refine (qo_.calls k1 _ _ l0_0 x4_1 t120 _ ?side1 ?side2 A23.out).mono ?_); (case side1 => repeat (first | exact (Kd.C_below HR0_0.out HB.out) | (with_reducible refine Kd.C_alloc ?_ _) | (with_reducible refine Kd.C_drewN ?_ _) | (with_reducible refine Kd.C_drew ?_))); (case side2 => exact HC0_0.out); rintro e w32 ⟨rfl, hb⟩; refine ⟨_, rfl, ?_⟩; replace BK114 := Aside0.mk (ql_ BK114 (by (with_reducible repeat first | apply qa_ | apply qb_ | apply blk_alloc); exact BK114.out) hb); replace BK115 := Aside0.mk (ql_ BK115 (by (with_reducible repeat first | apply qa_ | apply qb_ | apply blk_alloc); exact BK115.out) hb); replace HB := Aside0.mk (qq_ (by repeat (first | (with_reducible first | exact HB.out | apply qh_ | apply qc_ | apply qf_ | refine qk_ ?_ (by assumption)) | exact HB.out)) hb); (try clear hb); have hcz33_0 := qg_ BK114 0 (.slice A0_0 l0_0.length c0_0) rfl; have hfz33_0 := qd_ BK114 0) | ((with_reducible refine qs_ (f := 21) rfl ?_); refine goesL_ (some 27) rfl rfl Tryd.func21 (by kernel_rfl) rfl #[.slice A0_0 l0_0.length c0_0, .int .i64 x4_1] rfl (by (try simp only [List.map_toArray]); first | done | rfl) ?_; (with_reducible refine (qo_.calls k1 _ _ l0_0 x4_1 t121 _ ?side1 ?side2 A28.out).mono ?_); (case side1 => repeat (first | exact (Kd.C_below HR0_0.out HB.out) | (with_reducible refine Kd.C_alloc ?_ _) | (with_reducible refine Kd.C_drewN ?_ _) | (with_reducible refine Kd.C_drew ?_))); (case side2 => exact HC0_0.out); rintro e w34 ⟨rfl, hb⟩; refine ⟨_, rfl, ?_⟩; replace BK114 := Aside0.mk (ql_ BK114 (by (with_reducible repeat first | apply qa_ | apply qb_ | apply blk_alloc); exact BK114.out) hb); replace BK115 := Aside0.mk (ql_ BK115 (by (with_reducible repeat first | apply qa_ | apply qb_ | apply blk_alloc); exact BK115.out) hb); replace HB := Aside0.mk (qq_ (by repeat (first | (with_reducible first | exact HB.out | apply qh_ | apply qc_ | apply qf_ | refine qk_ ?_ (by assumption)) | exact HB.out)) hb); (try clear hb)) | ((with_reducible refine qs_ (f := 16) rfl ?_); refine goesL_ (some 29) rfl rfl Tryd.func16 (by kernel_rfl) rfl #[.int .i64 t121, .int .i64 x4_1] rfl (by (try simp only [List.map_toArray]); first | done | rfl) ?_; (with_reducible refine (qF_.calls t121 x4_1 t122 t123 _ A29.out).mono ?_); rintro e w35 ⟨rfl, hb⟩; refine ⟨_, rfl, ?_⟩; replace BK114 := Aside0.mk (ql_ BK114 (by (with_reducible repeat first | apply qa_ | apply qb_ | apply blk_alloc); exact BK114.out) hb); replace BK115 := Aside0.mk (ql_ BK115 (by (with_reducible repeat first | apply qa_ | apply qb_ | apply blk_alloc); exact BK115.out) hb); replace HB := Aside0.mk (qq_ (by repeat (first | (with_reducible first | exact HB.out | apply qh_ | apply qc_ | apply qf_ | refine qk_ ?_ (by assumption)) | exact HB.out)) hb); (try clear hb); have hcz36_0 := qg_ BK115 0 (.int .i64 x116000_1) rfl; have hcz36_1 := qg_ BK115 1 (.int .i64 x116001_1) rfl; have hfz36_0 := qd_ BK115 0; have hfz36_1 := qd_ BK115 1))
       refine bodyPost_ret (results_cell_row rfl _ _ gb115 28 #[.int .i64 t122, .int .i64 t123] (0, 0) _ rfl (by (with_reducible repeat first | apply qa_ | apply qb_ | apply blk_alloc); refine qA_ (cs := #[.int .i64 t122, .int .i64 x116001_1]) ?_ 1 _ rfl; (with_reducible repeat first | apply qa_ | apply qb_ | apply blk_alloc); refine qA_ (cs := #[.int .i64 x116000_1, .int .i64 x116001_1]) ?_ 0 _ rfl; (with_reducible repeat first | apply qa_ | apply qb_ | apply blk_alloc); exact BK115.out) Tryd.underlying28 rfl (by kernel_rfl)) rfl ?_
       exact ⟨by first | rfl | (simp [*] <;> rfl), by repeat (first | (with_reducible first | exact HB.out | apply qh_ | apply qc_ | apply qf_ | refine qk_ ?_ (by assumption)) | exact HB.out)⟩
     ·rw [if_neg c22] at H
      have c22b0 : decide (x4_1 < (l0_0.length : Int)) = false := decide_eq_false c22
      clear c22
      replace H := Option.bind_eq_some_iff.mp H
      obtain ⟨t124, A370, H⟩ := H
      replace H : (if t124 = (l0_0.length : Int) then ((changeforgeref7_Depth.f k1 l0_0 (wrap64 ((l0_0.length : Int) - 1))).bind fun t127 => (if t127 > 12 then ((qF_.f 10 (-1)).bind fun bt128 => (some (bt128.1, bt128.2))) else ((qF_.f 0 0).bind fun bt130 => (some (bt130.1, bt130.2))))) else ((qF_.f 5 (-1)).bind fun bt125 => (some (bt125.1, bt125.2)))) = some (r1, r2) := H
      have A37 := Aside0.mk A370
      clear A370
      by_cases c38 : t124 = (l0_0.length : Int)
      ·rw [if_pos c38] at H
       have c38b0 : (t124 == (l0_0.length : Int)) = true := beq_iff_eq.mpr c38
       have c38b1 : (t124 != (l0_0.length : Int)) = false := bne_eq_false_iff_eq.mpr c38
       clear c38
       replace H := Option.bind_eq_some_iff.mp H
       obtain ⟨t127, A390, H⟩ := H
       replace H : (if t127 > 12 then ((qF_.f 10 (-1)).bind fun bt128 => (some (bt128.1, bt128.2))) else ((qF_.f 0 0).bind fun bt130 => (some (bt130.1, bt130.2)))) = some (r1, r2) := H
       have A39 := Aside0.mk A390
       clear A390
       by_cases c40 : t127 > 12
       ·rw [if_pos c40] at H
        have c40b0 : decide (12 < t127) = true := decide_eq_true c40
        clear c40
        replace H := Option.bind_eq_some_iff.mp H
        obtain ⟨⟨t128, t129⟩, A410, H⟩ := H
        replace H : (some (t128, t129)) = some (r1, r2) := H
        have A41 := Aside0.mk A410
        clear A410
        simp only [Option.some.injEq, Prod.mk.injEq] at H
        obtain ⟨rfl, rfl⟩ := H
        have hcz43_0 := qg_ BK114 0 (.slice A0_0 l0_0.length c0_0) rfl
        have hfz43_0 := qd_ BK114 0
        go_wp2_with (first | ((with_reducible refine qs_ (f := 22) rfl ?_); refine goesL_ (some 34) rfl rfl Tryd.func22 (by kernel_rfl) rfl #[.slice A0_0 l0_0.length c0_0, .int .i64 (wrap64 ((l0_0.length : Int) - 1))] rfl (by (try simp only [List.map_toArray]); first | done | rfl) ?_; (with_reducible refine (qt_.calls k1 _ _ l0_0 (wrap64 ((l0_0.length : Int) - 1)) t124 _ ?side1 ?side2 A37.out).mono ?_); (case side1 => repeat (first | exact (Kd.C_below HR0_0.out HB.out) | (with_reducible refine Kd.C_alloc ?_ _) | (with_reducible refine Kd.C_drewN ?_ _) | (with_reducible refine Kd.C_drew ?_))); (case side2 => exact HC0_0.out); rintro e w44 ⟨rfl, hb⟩; refine ⟨_, rfl, ?_⟩; replace BK114 := Aside0.mk (ql_ BK114 (by (with_reducible repeat first | apply qa_ | apply qb_ | apply blk_alloc); exact BK114.out) hb); replace BK115 := Aside0.mk (ql_ BK115 (by (with_reducible repeat first | apply qa_ | apply qb_ | apply blk_alloc); exact BK115.out) hb); replace HB := Aside0.mk (qq_ (by repeat (first | (with_reducible first | exact HB.out | apply qh_ | apply qc_ | apply qf_ | refine qk_ ?_ (by assumption)) | exact HB.out)) hb); (try clear hb); have hcz45_0 := qg_ BK114 0 (.slice A0_0 l0_0.length c0_0) rfl; have hfz45_0 := qd_ BK114 0) | ((with_reducible refine qs_ (f := 23) rfl ?_); refine goesL_ (some 42) rfl rfl Tryd.func23 (by kernel_rfl) rfl #[.slice A0_0 l0_0.length c0_0, .int .i64 (wrap64 ((l0_0.length : Int) - 1))] rfl (by (try simp only [List.map_toArray]); first | done | rfl) ?_; (with_reducible refine (changeforgeref7_Depth.calls k1 _ _ l0_0 (wrap64 ((l0_0.length : Int) - 1)) t127 _ ?side1 ?side2 A39.out).mono ?_); (case side1 => repeat (first | exact (Kd.C_below HR0_0.out HB.out) | (with_reducible refine Kd.C_alloc ?_ _) | (with_reducible refine Kd.C_drewN ?_ _) | (with_reducible refine Kd.C_drew ?_))); (case side2 => exact HC0_0.out); rintro e w46 ⟨rfl, hb⟩; refine ⟨_, rfl, ?_⟩; replace BK114 := Aside0.mk (ql_ BK114 (by (with_reducible repeat first | apply qa_ | apply qb_ | apply blk_alloc); exact BK114.out) hb); replace BK115 := Aside0.mk (ql_ BK115 (by (with_reducible repeat first | apply qa_ | apply qb_ | apply blk_alloc); exact BK115.out) hb); replace HB := Aside0.mk (qq_ (by repeat (first | (with_reducible first | exact HB.out | apply qh_ | apply qc_ | apply qf_ | refine qk_ ?_ (by assumption)) | exact HB.out)) hb); (try clear hb)) | ((with_reducible refine qs_ (f := 16) rfl ?_); refine goesL_ (some 44) rfl rfl Tryd.func16 (by kernel_rfl) rfl #[.int .i64 10, .int .i64 (-1)] rfl (by (try simp only [List.map_toArray]); first | done | rfl) ?_; (with_reducible refine (qF_.calls 10 (-1) t128 t129 _ A41.out).mono ?_); rintro e w47 ⟨rfl, hb⟩; refine ⟨_, rfl, ?_⟩; replace BK114 := Aside0.mk (ql_ BK114 (by (with_reducible repeat first | apply qa_ | apply qb_ | apply blk_alloc); exact BK114.out) hb); replace BK115 := Aside0.mk (ql_ BK115 (by (with_reducible repeat first | apply qa_ | apply qb_ | apply blk_alloc); exact BK115.out) hb); replace HB := Aside0.mk (qq_ (by repeat (first | (with_reducible first | exact HB.out | apply qh_ | apply qc_ | apply qf_ | refine qk_ ?_ (by assumption)) | exact HB.out)) hb); (try clear hb); have hcz48_0 := qg_ BK115 0 (.int .i64 x116000_1) rfl; have hcz48_1 := qg_ BK115 1 (.int .i64 x116001_1) rfl; have hfz48_0 := qd_ BK115 0; have hfz48_1 := qd_ BK115 1))
        refine bodyPost_ret (results_cell_row rfl _ _ gb115 28 #[.int .i64 t128, .int .i64 t129] (0, 0) _ rfl (by (with_reducible repeat first | apply qa_ | apply qb_ | apply blk_alloc); refine qA_ (cs := #[.int .i64 t128, .int .i64 x116001_1]) ?_ 1 _ rfl; (with_reducible repeat first | apply qa_ | apply qb_ | apply blk_alloc); refine qA_ (cs := #[.int .i64 x116000_1, .int .i64 x116001_1]) ?_ 0 _ rfl; (with_reducible repeat first | apply qa_ | apply qb_ | apply blk_alloc); exact BK115.out) Tryd.underlying28 rfl (by kernel_rfl)) rfl ?_
        exact ⟨by first | rfl | (simp [*] <;> rfl), by repeat (first | (with_reducible first | exact HB.out | apply qh_ | apply qc_ | apply qf_ | refine qk_ ?_ (by assumption)) | exact HB.out)⟩
       ·rw [if_neg c40] at H
        have c40b0 : decide (12 < t127) = false := decide_eq_false c40
        clear c40
        replace H := Option.bind_eq_some_iff.mp H
        obtain ⟨⟨t130, t131⟩, A490, H⟩ := H
        replace H : (some (t130, t131)) = some (r1, r2) := H
        have A49 := Aside0.mk A490
        clear A490
        simp only [Option.some.injEq, Prod.mk.injEq] at H
        obtain ⟨rfl, rfl⟩ := H
        have hcz51_0 := qg_ BK114 0 (.slice A0_0 l0_0.length c0_0) rfl
        have hfz51_0 := qd_ BK114 0
        go_wp2_with (first | ((with_reducible refine qs_ (f := 22) rfl ?_); refine goesL_ (some 34) rfl rfl Tryd.func22 (by kernel_rfl) rfl #[.slice A0_0 l0_0.length c0_0, .int .i64 (wrap64 ((l0_0.length : Int) - 1))] rfl (by (try simp only [List.map_toArray]); first | done | rfl) ?_; (with_reducible refine (qt_.calls k1 _ _ l0_0 (wrap64 ((l0_0.length : Int) - 1)) t124 _ ?side1 ?side2 A37.out).mono ?_); (case side1 => repeat (first | exact (Kd.C_below HR0_0.out HB.out) | (with_reducible refine Kd.C_alloc ?_ _) | (with_reducible refine Kd.C_drewN ?_ _) | (with_reducible refine Kd.C_drew ?_))); (case side2 => exact HC0_0.out); rintro e w52 ⟨rfl, hb⟩; refine ⟨_, rfl, ?_⟩; replace BK114 := Aside0.mk (ql_ BK114 (by (with_reducible repeat first | apply qa_ | apply qb_ | apply blk_alloc); exact BK114.out) hb); replace BK115 := Aside0.mk (ql_ BK115 (by (with_reducible repeat first | apply qa_ | apply qb_ | apply blk_alloc); exact BK115.out) hb); replace HB := Aside0.mk (qq_ (by repeat (first | (with_reducible first | exact HB.out | apply qh_ | apply qc_ | apply qf_ | refine qk_ ?_ (by assumption)) | exact HB.out)) hb); (try clear hb); have hcz53_0 := qg_ BK114 0 (.slice A0_0 l0_0.length c0_0) rfl; have hfz53_0 := qd_ BK114 0) | ((with_reducible refine qs_ (f := 23) rfl ?_); refine goesL_ (some 42) rfl rfl Tryd.func23 (by kernel_rfl) rfl #[.slice A0_0 l0_0.length c0_0, .int .i64 (wrap64 ((l0_0.length : Int) - 1))] rfl (by (try simp only [List.map_toArray]); first | done | rfl) ?_; (with_reducible refine (changeforgeref7_Depth.calls k1 _ _ l0_0 (wrap64 ((l0_0.length : Int) - 1)) t127 _ ?side1 ?side2 A39.out).mono ?_); (case side1 => repeat (first | exact (Kd.C_below HR0_0.out HB.out) | (with_reducible refine Kd.C_alloc ?_ _) | (with_reducible refine Kd.C_drewN ?_ _) | (with_reducible refine Kd.C_drew ?_))); (case side2 => exact HC0_0.out); rintro e w54 ⟨rfl, hb⟩; refine ⟨_, rfl, ?_⟩; replace BK114 := Aside0.mk (ql_ BK114 (by (with_reducible repeat first | apply qa_ | apply qb_ | apply blk_alloc); exact BK114.out) hb); replace BK115 := Aside0.mk (ql_ BK115 (by (with_reducible repeat first | apply qa_ | apply qb_ | apply blk_alloc); exact BK115.out) hb); replace HB := Aside0.mk (qq_ (by repeat (first | (with_reducible first | exact HB.out | apply qh_ | apply qc_ | apply qf_ | refine qk_ ?_ (by assumption)) | exact HB.out)) hb); (try clear hb)) | ((with_reducible refine qs_ (f := 16) rfl ?_); refine goesL_ (some 45) rfl rfl Tryd.func16 (by kernel_rfl) rfl #[.int .i64 0, .int .i64 0] rfl (by (try simp only [List.map_toArray]); first | done | rfl) ?_; (with_reducible refine (qF_.calls 0 0 t130 t131 _ A49.out).mono ?_); rintro e w55 ⟨rfl, hb⟩; refine ⟨_, rfl, ?_⟩; replace BK114 := Aside0.mk (ql_ BK114 (by (with_reducible repeat first | apply qa_ | apply qb_ | apply blk_alloc); exact BK114.out) hb); replace BK115 := Aside0.mk (ql_ BK115 (by (with_reducible repeat first | apply qa_ | apply qb_ | apply blk_alloc); exact BK115.out) hb); replace HB := Aside0.mk (qq_ (by repeat (first | (with_reducible first | exact HB.out | apply qh_ | apply qc_ | apply qf_ | refine qk_ ?_ (by assumption)) | exact HB.out)) hb); (try clear hb); have hcz56_0 := qg_ BK115 0 (.int .i64 x116000_1) rfl; have hcz56_1 := qg_ BK115 1 (.int .i64 x116001_1) rfl; have hfz56_0 := qd_ BK115 0; have hfz56_1 := qd_ BK115 1))
        refine bodyPost_ret (results_cell_row rfl _ _ gb115 28 #[.int .i64 t130, .int .i64 t131] (0, 0) _ rfl (by (with_reducible repeat first | apply qa_ | apply qb_ | apply blk_alloc); refine qA_ (cs := #[.int .i64 t130, .int .i64 x116001_1]) ?_ 1 _ rfl; (with_reducible repeat first | apply qa_ | apply qb_ | apply blk_alloc); refine qA_ (cs := #[.int .i64 x116000_1, .int .i64 x116001_1]) ?_ 0 _ rfl; (with_reducible repeat first | apply qa_ | apply qb_ | apply blk_alloc); exact BK115.out) Tryd.underlying28 rfl (by kernel_rfl)) rfl ?_
        exact ⟨by first | rfl | (simp [*] <;> rfl), by repeat (first | (with_reducible first | exact HB.out | apply qh_ | apply qc_ | apply qf_ | refine qk_ ?_ (by assumption)) | exact HB.out)⟩
      ·rw [if_neg c38] at H
       have c38b0 : (t124 == (l0_0.length : Int)) = false := beq_eq_false_iff_ne.mpr c38
       have c38b1 : (t124 != (l0_0.length : Int)) = true := bne_iff_ne.mpr c38
       replace H := Option.bind_eq_some_iff.mp H
       obtain ⟨⟨t125, t126⟩, A570, H⟩ := H
       replace H : (some (t125, t126)) = some (r1, r2) := H
       have A57 := Aside0.mk A570
       clear A570
       simp only [Option.some.injEq, Prod.mk.injEq] at H
       obtain ⟨rfl, rfl⟩ := H
       have hcz59_0 := qg_ BK114 0 (.slice A0_0 l0_0.length c0_0) rfl
       have hfz59_0 := qd_ BK114 0
       go_wp2_with (first | ((with_reducible refine qs_ (f := 22) rfl ?_); refine goesL_ (some 34) rfl rfl Tryd.func22 (by kernel_rfl) rfl #[.slice A0_0 l0_0.length c0_0, .int .i64 (wrap64 ((l0_0.length : Int) - 1))] rfl (by (try simp only [List.map_toArray]); first | done | rfl) ?_; (with_reducible refine (qt_.calls k1 _ _ l0_0 (wrap64 ((l0_0.length : Int) - 1)) t124 _ ?side1 ?side2 A37.out).mono ?_); (case side1 => repeat (first | exact (Kd.C_below HR0_0.out HB.out) | (with_reducible refine Kd.C_alloc ?_ _) | (with_reducible refine Kd.C_drewN ?_ _) | (with_reducible refine Kd.C_drew ?_))); (case side2 => exact HC0_0.out); rintro e w60 ⟨rfl, hb⟩; refine ⟨_, rfl, ?_⟩; replace BK114 := Aside0.mk (ql_ BK114 (by (with_reducible repeat first | apply qa_ | apply qb_ | apply blk_alloc); exact BK114.out) hb); replace BK115 := Aside0.mk (ql_ BK115 (by (with_reducible repeat first | apply qa_ | apply qb_ | apply blk_alloc); exact BK115.out) hb); replace HB := Aside0.mk (qq_ (by repeat (first | (with_reducible first | exact HB.out | apply qh_ | apply qc_ | apply qf_ | refine qk_ ?_ (by assumption)) | exact HB.out)) hb); (try clear hb)) | ((with_reducible refine qs_ (f := 16) rfl ?_); refine goesL_ (some 37) rfl rfl Tryd.func16 (by kernel_rfl) rfl #[.int .i64 5, .int .i64 (-1)] rfl (by (try simp only [List.map_toArray]); first | done | rfl) ?_; (with_reducible refine (qF_.calls 5 (-1) t125 t126 _ A57.out).mono ?_); rintro e w61 ⟨rfl, hb⟩; refine ⟨_, rfl, ?_⟩; replace BK114 := Aside0.mk (ql_ BK114 (by (with_reducible repeat first | apply qa_ | apply qb_ | apply blk_alloc); exact BK114.out) hb); replace BK115 := Aside0.mk (ql_ BK115 (by (with_reducible repeat first | apply qa_ | apply qb_ | apply blk_alloc); exact BK115.out) hb); replace HB := Aside0.mk (qq_ (by repeat (first | (with_reducible first | exact HB.out | apply qh_ | apply qc_ | apply qf_ | refine qk_ ?_ (by assumption)) | exact HB.out)) hb); (try clear hb); have hcz62_0 := qg_ BK115 0 (.int .i64 x116000_1) rfl; have hcz62_1 := qg_ BK115 1 (.int .i64 x116001_1) rfl; have hfz62_0 := qd_ BK115 0; have hfz62_1 := qd_ BK115 1))
       refine bodyPost_ret (results_cell_row rfl _ _ gb115 28 #[.int .i64 t125, .int .i64 t126] (0, 0) _ rfl (by (with_reducible repeat first | apply qa_ | apply qb_ | apply blk_alloc); refine qA_ (cs := #[.int .i64 t125, .int .i64 x116001_1]) ?_ 1 _ rfl; (with_reducible repeat first | apply qa_ | apply qb_ | apply blk_alloc); refine qA_ (cs := #[.int .i64 x116000_1, .int .i64 x116001_1]) ?_ 0 _ rfl; (with_reducible repeat first | apply qa_ | apply qb_ | apply blk_alloc); exact BK115.out) Tryd.underlying28 rfl (by kernel_rfl)) rfl ?_
       exact ⟨by first | rfl | (simp [*] <;> rfl), by repeat (first | (with_reducible first | exact HB.out | apply qh_ | apply qc_ | apply qf_ | refine qk_ ?_ (by assumption)) | exact HB.out)⟩

end Go.Proofs.YtblkkhddefnkpaaDoor.PPo
