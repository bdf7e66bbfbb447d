-- printed by drv.py (a program of this repo, over the kit's printer)
import Derived.Test.YtjpdcnaealdbjaaTd
import Derived.Test.YtjpdcnaealdbjaaPThx0
namespace Go.Proofs.Ytjpdcnaealdbjaa.PTh
open Go.RowKit Go.Proofs.YtjpdcnaealdbjaaW.PrintWords Go.Proofs.YtjpdcnaealdbjaaW.PrintLast Go.Proofs.YtjpdcnaealdbjaaW.PrintMore
attribute [local go_sem] max2_int min2_int max_two min_two max_three min_three max_four min_four   -- for this text's walks alone
set_option linter.unusedVariables false
set_option linter.unusedSimpArgs false

/-! ### q4_: function 10 -/
def q4_.l0 : Nat → List Int → List (S34) → Int → Int → Int → Int → Option (List Int × Int × Int)
 | 0, _, _, _, _, _, _ => none
 | k + 1, x9, x22, x23, x24, x190000, x190001 => if x24 < x23 then (if 0 ≤ x24 then (if x24 < (x22.length : Int) then (if ((rd_T34 x22 x24).f4 = true) then (q4_.l0 k x9 x22 x23 (wrap64 (x24 + 1)) x190000 x190001) else (if ((rd_T34 x22 x24).f3 = true) then (q4_.l0 k x9 x22 x23 (wrap64 (x24 + 1)) x190000 x190001) else (if 0 ≤ ((rd_T34 x22 x24).f1) then (if ((rd_T34 x22 x24).f1) < (x9.length : Int) then (q4_.l0 k (x9.set (((rd_T34 x22 x24).f1) : Int).toNat (wrap64 ((rd x9 ((rd_T34 x22 x24).f1)) + 1))) x22 x23 (wrap64 (x24 + 1)) x190000 x190001) else (none)) else (none)))) else (none)) else (none)) else (some (x9, x190000, x190001))
def q4_.f (k : Nat) (l0 : List ByteArray) (l1 : List (S43)) : Option (List Int × Int × Int) := (threads_Run.f k l0 l1).bind fun bt181 => (if 0 ≤ (bt181.2.1.length : Int) then (if ((bt181.2.1.length : Int) : Int).toNat ≤ 35184372088832 then (q4_.l0 k (List.replicate ((bt181.2.1.length : Int) : Int).toNat 0) bt181.1 (bt181.1.length : Int) 0 bt181.2.2.1 bt181.2.2.2) else (none)) else (none))
theorem q4_.mono_l : ∀ k, (∀ y0 y1 y2 y3 y4 y5, LeO (q4_.l0 k y0 y1 y2 y3 y4 y5) (q4_.l0 (k + 1) y0 y1 y2 y3 y4 y5))
 | 0 => fun _ _ _ _ _ _ r h => by simp [q4_.l0] at h
 | k + 1 => by
  have ih0 := q4_.mono_l k
  ·intro y0 y1 y2 y3 y4 y5
   unfold q4_.l0
   repeat' first
   | (with_reducible exact ih0 _ _ _ _ _ _)
   | (with_reducible exact threads_Run.mono _ _ _)
   | (with_reducible exact LeO.refl _)
   | (with_reducible exact LeO.none _)
   | (with_reducible refine LeO.ite ?_ ?_)
   | (with_reducible refine LeO.bind ?_ (fun _ => ?_))
   | exact ih0 _ _ _ _ _ _
   | exact threads_Run.mono _ _ _
   | exact LeO.none _
   | refine LeO.ite ?_ ?_
   | refine LeO.bind ?_ (fun _ => ?_)
theorem q4_.mono : ∀ a0 a1 k, LeO (q4_.f k a0 a1) (q4_.f (k + 1) a0 a1) := by
 intro a0 a1 k
 have ih0 := q4_.mono_l k
 unfold q4_.f
 repeat' first
   | (with_reducible exact ih0 _ _ _ _ _ _)
   | (with_reducible exact threads_Run.mono _ _ _)
   | (with_reducible exact LeO.refl _)
   | (with_reducible exact LeO.none _)
   | (with_reducible refine LeO.ite ?_ ?_)
   | (with_reducible refine LeO.bind ?_ (fun _ => ?_))
   | exact ih0 _ _ _ _ _ _
   | exact threads_Run.mono _ _ _
   | exact LeO.none _
   | refine LeO.ite ?_ ?_
   | refine LeO.bind ?_ (fun _ => ?_)
set_option maxHeartbeats 8000000 in
set_option maxRecDepth 100000 in
theorem q4_.calls (k : Nat) (A0 : Option Addr) (c0 : Nat) (l0 : List ByteArray) (A1 : Option Addr) (c1 : Nat) (l1 : List (S43)) (r1 : List Int) (r2 : Int) (r3 : Int) (w : World) (hr0 : Kd.C Kd.string w A0 l0.length l0) (hc0 : l0.length ≤ c0) (hr1 : Kd.C k43 w A1 l1.length l1) (hc1 : l1.length ≤ c1) (h : q4_.f k l0 l1 = some (r1, r2, r3)) :
  Calls Try.prog 10 #[.slice A0 l0.length c0, .slice A1 l1.length c1] w fun e w' => ∃ v0_ : Value, e = .returned (.tuple #[v0_, .agg #[.int .i64 r2, .int .i64 r3]]) ∧ Kd.R (Kd.int .i64) 3 w' w.heap.size (fun _ => True) v0_ r1 ∧ Below w.heap.size w w' := by
 have hu26 := Try.underlying26
 have hu34 := Try.underlying34
 have HR0 := qi_.mk hr0
 have HC0 := qi_.mk hc0
 clear hr0 hc0
 have HR1 := qi_.mk hr1
 have HC1 := qi_.mk hc1
 clear hr1 hc1
 have HB := qi_.mk (Below.refl w.heap.size w)
 have H : ((threads_Run.f k l0 l1).bind fun bt181 => (if 0 ≤ (bt181.2.1.length : Int) then (if ((bt181.2.1.length : Int) : Int).toNat ≤ 35184372088832 then (q4_.l0 k (List.replicate ((bt181.2.1.length : Int) : Int).toNat 0) bt181.1 (bt181.1.length : Int) 0 bt181.2.2.1 bt181.2.2.2) else (none)) else (none))) = some (r1, r2, r3) := h
 clear h
 replace H := Option.bind_eq_some_iff.mp H
 obtain ⟨⟨t181, t184, t187, t188⟩, A30, H⟩ := H
 replace H : (if 0 ≤ (t184.length : Int) then (if ((t184.length : Int) : Int).toNat ≤ 35184372088832 then (q4_.l0 k (List.replicate ((t184.length : Int) : Int).toNat 0) t181 (t181.length : Int) 0 t187 t188) else (none)) else (none)) = some (r1, r2, r3) := H
 have A3 := qi_.mk A30
 clear A30
 by_cases c4 : 0 ≤ (t184.length : Int)
 ·rw [if_pos c4] at H
  have c4b0 := eq_true c4
  have c4b1 : decide (0 ≤ (t184.length : Int)) = true := decide_eq_true c4
  clear c4
  by_cases c5 : ((t184.length : Int) : Int).toNat ≤ 35184372088832
  ·rw [if_pos c5] at H
   have c5b0 := eq_true c5
   have c5b1 : decide (((t184.length : Int) : Int).toNat ≤ 35184372088832) = true := decide_eq_true c5
   clear c5
   obtain ⟨y190, hy190⟩ : ∃ y_ : List Int, y_ = (List.replicate ((t184.length : Int) : Int).toNat 0) := ⟨_, rfl⟩
   replace H : (q4_.l0 k y190 t181 (t181.length : Int) 0 t187 t188) = some (r1, r2, r3) := by first | (rw [hy190]; with_reducible exact H) | (have H2_ := (Option.bind_some _ _).symm.trans H; rw [hy190]; with_reducible exact H2_) | (have H2_ := (Option.bind_some _ _).symm.trans H; with_reducible exact H2_) | with_reducible exact H | (rw [hy190]; exact H) | exact H
   have Ny190 := qi_.mk hy190
   clear hy190
   have H' := qi_.mk H
   clear H
   go_enter Try.func10, Try.ntmps10
   go_wp2_with (first | ((with_reducible refine gate_dst (N := 5) rfl ?_); refine q1_ ?hg (N := 5) ?hd (cs := #[.int .i64 0, .int .i64 0]) (t := 26) ?hr ?_; (case hd => rfl); (case hg => rfl); (case hr => first | (go_simp; done) | (go_simp; rfl)); intro gb180 hg w6 hbox hb; have n0_ := qi_.mk (qr_ (by repeat (first | (with_reducible first | exact HB.out | apply qe_ | apply qa_ | apply qc_) | exact HB.out)) hb); have n1_ := qi_.mk (hbox); have n2_ := qi_.mk ((by rw [hg]; exact (qq_ (by repeat (first | (with_reducible first | exact HB.out | apply qe_ | apply qa_ | apply qc_) | exact HB.out))) : w.heap.size ≤ gb180)); have n3_ := qi_.mk ((by rw [hg]; exact (qq_ (by repeat (first | (with_reducible first | exact HB.out | apply qe_ | apply qa_ | apply qc_) | exact HB.out))) : w.heap.size ≤ gb180)); clear HB; have HB := n0_; have BK180 := n1_; have GW180 := n2_; have GE180 := n3_; clear n0_ n1_ n2_ n3_; clear hb hbox hg) | ((with_reducible refine q2_ (f := 8) rfl ?_); refine goesL_ (some 15) rfl rfl Try.func8 (by kernel_rfl) rfl #[.slice A0 l0.length c0, .slice A1 l1.length c1] rfl (by simp only [List.map_toArray]; first | done | rfl) ?_; (with_reducible refine (threads_Run.calls k _ _ l0 _ _ l1 t181 t184 t187 t188 _ ?side1 ?side2 ?side3 ?side4 A3.out).mono ?_); (case side1 => repeat (first | exact (Kd.C_below HR0.out HB.out))); (case side2 => exact HC0.out); (case side3 => repeat (first | exact (Kd.C_below HR1.out HB.out))); (case side4 => exact HC1.out); rintro e w7 ⟨v182, v185, rfl, ho0, ho1, hb⟩; refine ⟨_, rfl, ?_⟩; have n0_ := qi_.mk (Kd.R_lower ho0 (qq_ (by repeat (first | (with_reducible first | exact HB.out | apply qe_ | apply qa_ | apply qc_ | refine qf_ ?_ GE180.out) | exact HB.out)))); have n1_ := qi_.mk (Kd.R_lower ho1 (qq_ (by repeat (first | (with_reducible first | exact HB.out | apply qe_ | apply qa_ | apply qc_ | refine qf_ ?_ GE180.out) | exact HB.out)))); have n2_ := qi_.mk (qn_ (g := gb180) (o := .cells #[.int .i64 0, .int .i64 0] 26 (0, 0)) (by (with_reducible repeat (first | refine qd_ ?_ _ | refine qh_ ?_)); exact BK180.out) hb); have n3_ := qi_.mk (qr_ (by repeat (first | (with_reducible first | exact HB.out | apply qe_ | apply qa_ | apply qc_ | refine qf_ ?_ GE180.out) | exact HB.out)) hb); clear BK180; clear HB; have HO183 := n0_; have HO186 := n1_; have BK180 := n2_; have HB := n3_; clear n0_ n1_ n2_ n3_; (try clear hb); (try clear ho0); (try clear ho1)) | ((with_reducible refine gate_dst (N := 8) rfl ?_); refine q1_ ?hg (N := 8) ?hd (cs := #[.int .i64 0, .int .i64 0]) (t := 26) ?hr ?_; (case hd => rfl); (case hg => rfl); (case hr => first | (go_simp; done) | (go_simp; rfl)); intro gb189 hg w8 hbox hb; have n0_ := qi_.mk (Kd.R_below (by (with_reducible repeat (first | apply Kd.qo_ | apply Kd.qp_)); exact HO183.out) hb); have n1_ := qi_.mk (Kd.R_below (by (with_reducible repeat (first | apply Kd.qo_ | apply Kd.qp_)); exact HO186.out) hb); have n2_ := qi_.mk (qn_ (g := gb180) (o := .cells #[.int .i64 0, .int .i64 0] 26 (0, 0)) (by (with_reducible repeat (first | refine qd_ ?_ _ | refine qh_ ?_)); exact BK180.out) hb); have n3_ := qi_.mk (qr_ (by repeat (first | (with_reducible first | exact HB.out | apply qe_ | apply qa_ | apply qc_ | refine qf_ ?_ GE180.out) | exact HB.out)) hb); have n4_ := qi_.mk (hbox); have n5_ := qi_.mk ((by rw [hg]; exact (qq_ (by repeat (first | (with_reducible first | exact HB.out | apply qe_ | apply qa_ | apply qc_ | refine qf_ ?_ GE180.out) | exact HB.out))) : w.heap.size ≤ gb189)); have n6_ := qi_.mk ((by rw [hg]; exact (qq_ (by repeat (first | (with_reducible first | exact HB.out | apply qe_ | apply qa_ | apply qc_ | refine qf_ ?_ GE180.out) | exact HB.out))) : w.heap.size ≤ gb189)); have n7_ := qi_.mk ((by rw [hg]; exact Nat.ne_of_lt (blk_lt (g := gb180) (o := .cells #[.int .i64 0, .int .i64 0] 26 (0, 0)) (by (with_reducible repeat (first | refine qd_ ?_ _ | refine qh_ ?_)); exact BK180.out)) : gb180 ≠ gb189)); have n8_ := qi_.mk ((by rw [hg]; exact Nat.ne_of_gt (blk_lt (g := gb180) (o := .cells #[.int .i64 0, .int .i64 0] 26 (0, 0)) (by (with_reducible repeat (first | refine qd_ ?_ _ | refine qh_ ?_)); exact BK180.out)) : gb189 ≠ gb180)); clear HO183; clear HO186; clear BK180; clear HB; have HO183 := n0_; have HO186 := n1_; have BK180 := n2_; have HB := n3_; have BK189 := n4_; have GW189 := n5_; have GE189 := n6_; have NB180_189 := n7_; have NB189_180 := n8_; clear n0_ n1_ n2_ n3_ n4_ n5_ n6_ n7_ n8_; clear hb hbox hg; have hnb9 := NB189_180.out; have hnc9 := NB180_189.out; have hcz10_0 : w8.cell? ⟨gb189, 0, none⟩ = some (.int .i64 0) := (qb_ BK189.out 0).trans rfl; have hcz10_1 : w8.cell? ⟨gb189, 1, none⟩ = some (.int .i64 0) := (qb_ BK189.out 1).trans rfl; have hfz10_0 := qg_ BK189.out 0; have hfz10_1 := qg_ BK189.out 1; obtain ⟨Ao11, co11, eo11⟩ := Kd.R_slice HO186.out; subst eo11) | ((with_reducible refine gate_dst (N := 21) rfl ?_); refine Kd.R_make (Kd.int .i64) _ 3 rfl (N := 21) rfl 29 _ _ rfl (t184.length : Int) rfl rfl Try.underlying29 (.int .i64 0) 8 info3 rfl (by decide) (by omega) 0 (ok := fun _ => True) (okp := fun _ => True) rfl (fun _ hk => hk) trivial (of_decide_eq_true (by assumption)) (Nat.le_trans (Nat.mul_le_mul_right _ (of_decide_eq_true (by assumption) : (t184.length : Int).toNat ≤ 35184372088832)) (by omega)) (Below.refl _ _) (Nat.le_refl _) ?_; intro v191 w12 ho13 hb hg_ hnew_; clear hg_ hnew_; (first | rw [← Ny190.out] at ho13 | (simp only [Int.reduceToNat] at ho13; rw [← Ny190.out] at ho13)); have n0_ := qi_.mk (Kd.R_below (by (with_reducible repeat (first | apply Kd.qo_ | apply Kd.qp_)); exact (Kd.R_mono (Kd.R_far (p := ⟨gb189, 1, none⟩) (Kd.R_far (p := ⟨gb189, 0, none⟩) (Kd.R_types HO183.out BK189.out (by decide)) (fun _ hk => hk.2) (.int .i64 t187)) (fun _ hk => hk.2) (.int .i64 t188)) (fun _ h_ => h_.1))) hb); have n1_ := qi_.mk (Kd.R_below (by (with_reducible repeat (first | apply Kd.qo_ | apply Kd.qp_)); exact (Kd.R_mono (Kd.R_far (p := ⟨gb189, 1, none⟩) (Kd.R_far (p := ⟨gb189, 0, none⟩) (Kd.R_types HO186.out BK189.out (by decide)) (fun _ hk => hk.2) (.int .i64 t187)) (fun _ hk => hk.2) (.int .i64 t188)) (fun _ h_ => h_.1))) hb); have n2_ := qi_.mk (Kd.R_lower ho13 (qq_ (by repeat (first | (with_reducible first | exact HB.out | apply qe_ | apply qa_ | apply qc_ | refine qf_ ?_ GE180.out | refine qf_ ?_ GE189.out) | exact HB.out)))); have n3_ := qi_.mk (qn_ (g := gb180) (o := .cells #[.int .i64 0, .int .i64 0] 26 (0, 0)) (by (with_reducible repeat (first | refine qd_ ?_ _ | refine qh_ ?_)); refine q7_ ?_ NB180_189.out _; (with_reducible repeat (first | refine qd_ ?_ _ | refine qh_ ?_)); refine q7_ ?_ NB180_189.out _; (with_reducible repeat (first | refine qd_ ?_ _ | refine qh_ ?_)); exact BK180.out) hb); have n4_ := qi_.mk (qn_ (g := gb189) (o := .cells #[.int .i64 t187, .int .i64 t188] 26 (0, 0)) (by (with_reducible repeat (first | refine qd_ ?_ _ | refine qh_ ?_)); refine q6_ (cs := #[.int .i64 t187, .int .i64 0]) ?_ 1 _ rfl; (with_reducible repeat (first | refine qd_ ?_ _ | refine qh_ ?_)); refine q6_ (cs := #[.int .i64 0, .int .i64 0]) ?_ 0 _ rfl; (with_reducible repeat (first | refine qd_ ?_ _ | refine qh_ ?_)); exact BK189.out) hb); have n5_ := qi_.mk (qr_ (by repeat (first | (with_reducible first | exact HB.out | apply qe_ | apply qa_ | apply qc_ | refine qf_ ?_ GE180.out | refine qf_ ?_ GE189.out) | exact HB.out)) hb); clear HO183; clear HO186; clear BK180; clear BK189; clear HB; have HO183 := n0_; have HO186 := n1_; have HO192 := n2_; have BK180 := n3_; have BK189 := n4_; have HB := n5_; clear n0_ n1_ n2_ n3_ n4_ n5_; clear hb ho13; obtain ⟨Ao14, co14, eo14⟩ := Kd.R_slice HO183.out; subst eo14))
   go_loopg [24] k (fun kq v24 w' => ∃ (x9_1 : List Int) (x24_1 : Int), v24 = .int .i64 x24_1 ∧ qi_ (q4_.l0 kq x9_1 t181 (t181.length : Int) x24_1 t187 t188 = some (r1, r2, r3)) ∧ qi_ (kq ≤ k) ∧ qi_ (Kd.R (Kd.int .i64) 3 w' w.heap.size (fun _ => True) v191 x9_1) ∧ qi_ (Kd.R k34 34 w' w.heap.size (fun _ => True) (.slice Ao14 t181.length co14) t181) ∧ qi_ (w'.heap[gb180]? = some (.cells #[.int .i64 0, .int .i64 0] 26 (0, 0))) ∧ qi_ (w'.heap[gb189]? = some (.cells #[.int .i64 t187, .int .i64 t188] 26 (0, 0))) ∧ qi_ (Below w.heap.size w w'))
   case atStart => exact ⟨(y190), (0), (by first | rfl | (simp; done) | (simp [*]; done)), H', ⟨Nat.le_refl _⟩, ⟨by (with_reducible repeat (first | apply Kd.qo_ | apply Kd.qp_)); exact HO192.out⟩, ⟨by (with_reducible repeat (first | apply Kd.qo_ | apply Kd.qp_)); exact HO183.out⟩, ⟨by (with_reducible repeat (first | refine qd_ ?_ _ | refine qh_ ?_)); exact BK180.out⟩, ⟨by (with_reducible repeat (first | refine qd_ ?_ _ | refine qh_ ?_)); exact BK189.out⟩, ⟨by repeat (first | (with_reducible first | exact HB.out | apply qe_ | apply qa_ | apply qc_ | refine qf_ ?_ GE180.out | refine qf_ ?_ GE189.out) | exact HB.out)⟩⟩
   case round =>
    clear H'
    try clear c1
    try clear p2
    try clear c4
    try clear c4b0
    try clear c4b1
    try clear c5
    try clear c5b0
    try clear c5b1
    try clear c8
    try clear c9
    try clear c10
    try clear hcz10_0
    try clear hcz10_1
    try clear hfz10_0
    try clear hfz10_1
    obtain ⟨x9_1, x24_1, rfl, HA, HK1, HO_9, HO_22, BK180, BK189, HB⟩ := hrel
    cases gk with
    | zero => exact absurd HA.out (by simp [q4_.l0])
    | succ k1 =>
     have H := HA.out
     clear HA
     simp only [q4_.l0] at H
     by_cases c15 : x24_1 < (t181.length : Int)
     ·rw [if_pos c15] at H
      have c15b0 : decide (x24_1 < (t181.length : Int)) = true := decide_eq_true c15
      clear c15
      by_cases c16 : 0 ≤ x24_1
      ·rw [if_pos c16] at H
       have c16b0 : decide (0 ≤ x24_1) = true := decide_eq_true c16
       clear c16
       by_cases c17 : x24_1 < (t181.length : Int)
       ·rw [if_pos c17] at H
        have c17b0 : decide (x24_1 < (t181.length : Int)) = true := decide_eq_true c17
        clear c17
        obtain ⟨bq18, hbq18⟩ : ∃ b_ : Bool, b_ = ((rd_T34 t181 x24_1).f4) := ⟨_, rfl⟩
        replace H : (if (bq18 = true) then (q4_.l0 k1 x9_1 t181 (t181.length : Int) (wrap64 (x24_1 + 1)) t187 t188) else (if ((rd_T34 t181 x24_1).f3 = true) then (q4_.l0 k1 x9_1 t181 (t181.length : Int) (wrap64 (x24_1 + 1)) t187 t188) else (if 0 ≤ ((rd_T34 t181 x24_1).f1) then (if ((rd_T34 t181 x24_1).f1) < (x9_1.length : Int) then (q4_.l0 k1 (x9_1.set (((rd_T34 t181 x24_1).f1) : Int).toNat (wrap64 ((rd x9_1 ((rd_T34 t181 x24_1).f1)) + 1))) t181 (t181.length : Int) (wrap64 (x24_1 + 1)) t187 t188) else (none)) else (none)))) = some (r1, r2, r3) := by rw [← hbq18] at H; exact H
        have Nbq18 := qi_.mk hbq18
        clear hbq18
        by_cases c19 : (bq18 = true)
        ·subst c19
         have H1 : (q4_.l0 k1 x9_1 t181 (t181.length : Int) (wrap64 (x24_1 + 1)) t187 t188) = some (r1, r2, r3) := by rw [if_pos rfl] at H; exact H
         clear H
         have H := H1
         clear H1
         have H' := qi_.mk H
         clear H
         have p193 : 0 ≤ (x24_1 : Int) := of_decide_eq_true (by assumption)
         have q193 : x24_1 < (t181.length : Int) := of_decide_eq_true (by assumption)
         obtain ⟨ad193, e193, hx193_0, hx193_1, hx193_2, hx193_3, hx193_4⟩ := at_T34 (Kd.R_reads' HO_22.out).2.2 x24_1 p193 q193
         (try rw [← Nbq18.out] at hx193_3)
         (try rw [← Nbq18.out] at hx193_4)
         cases e193
         replace p193 := eq_true p193
         replace q193 := eq_true q193
         go_wp2_with (first | ((with_reducible refine gate_dst (N := 11) rfl ?_); refine q1_ ?hg (N := 11) ?hd (cs := #[.int .i64 0, .int .i64 0, .int .i64 0, .bool false, .bool false]) (t := 34) ?hr ?_; (case hd => rfl); (case hg => rfl); (case hr => first | (go_simp; done) | (go_simp; rfl)); intro gb194 hg w20 hbox hb; have n0_ := qi_.mk (Kd.R_below (by (with_reducible repeat (first | apply Kd.qo_ | apply Kd.qp_)); exact HO_9.out) hb); have n1_ := qi_.mk (Kd.R_below (Kd.R_elderB (by (with_reducible repeat (first | apply Kd.qo_ | apply Kd.qp_)); exact HO_22.out) gb194 (Nat.le_of_eq hg.symm)) hb); have n2_ := qi_.mk (qn_ (g := gb180) (o := .cells #[.int .i64 0, .int .i64 0] 26 (0, 0)) (by (with_reducible repeat (first | refine qd_ ?_ _ | refine qh_ ?_)); exact BK180.out) hb); have n3_ := qi_.mk (qn_ (g := gb189) (o := .cells #[.int .i64 t187, .int .i64 t188] 26 (0, 0)) (by (with_reducible repeat (first | refine qd_ ?_ _ | refine qh_ ?_)); exact BK189.out) hb); have n4_ := qi_.mk (qr_ (by repeat (first | (with_reducible first | exact HB.out | apply qe_ | apply qa_ | apply qc_ | refine qf_ ?_ GE180.out | refine qf_ ?_ GE189.out) | exact HB.out)) hb); have n5_ := qi_.mk (hbox); have n6_ := qi_.mk ((by rw [hg]; exact (qq_ (by repeat (first | (with_reducible first | exact HB.out | apply qe_ | apply qa_ | apply qc_ | refine qf_ ?_ GE180.out | refine qf_ ?_ GE189.out) | exact HB.out))) : w.heap.size ≤ gb194)); have n7_ := qi_.mk ((by rw [hg]; exact (qq_ (by repeat (first | (with_reducible first | exact HB.out | apply qe_ | apply qa_ | apply qc_ | refine qf_ ?_ GE180.out | refine qf_ ?_ GE189.out) | exact HB.out))) : w.heap.size ≤ gb194)); have n8_ := qi_.mk ((by rw [hg]; exact Nat.ne_of_lt (blk_lt (g := gb180) (o := .cells #[.int .i64 0, .int .i64 0] 26 (0, 0)) (by (with_reducible repeat (first | refine qd_ ?_ _ | refine qh_ ?_)); exact BK180.out)) : gb180 ≠ gb194)); have n9_ := qi_.mk ((by rw [hg]; exact Nat.ne_of_gt (blk_lt (g := gb180) (o := .cells #[.int .i64 0, .int .i64 0] 26 (0, 0)) (by (with_reducible repeat (first | refine qd_ ?_ _ | refine qh_ ?_)); exact BK180.out)) : gb194 ≠ gb180)); have n10_ := qi_.mk ((by rw [hg]; exact Nat.ne_of_lt (blk_lt (g := gb189) (o := .cells #[.int .i64 t187, .int .i64 t188] 26 (0, 0)) (by (with_reducible repeat (first | refine qd_ ?_ _ | refine qh_ ?_)); exact BK189.out)) : gb189 ≠ gb194)); have n11_ := qi_.mk ((by rw [hg]; exact Nat.ne_of_gt (blk_lt (g := gb189) (o := .cells #[.int .i64 t187, .int .i64 t188] 26 (0, 0)) (by (with_reducible repeat (first | refine qd_ ?_ _ | refine qh_ ?_)); exact BK189.out)) : gb194 ≠ gb189)); clear HO_9; clear HO_22; clear BK180; clear BK189; clear HB; have HO_9 := n0_; have HO_22 := n1_; have BK180 := n2_; have BK189 := n3_; have HB := n4_; have BK194 := n5_; have GW194 := n6_; have GE194 := n7_; have NB180_194 := n8_; have NB194_180 := n9_; have NB189_194 := n10_; have NB194_189 := n11_; clear n0_ n1_ n2_ n3_ n4_ n5_ n6_ n7_ n8_ n9_ n10_ n11_; clear hb hbox hg; have hnb21 := NB194_180.out; have hnc21 := NB180_194.out; have hnb22 := NB194_189.out; have hnc22 := NB189_194.out; have hcz23_0 : w20.cell? ⟨gb194, 0, none⟩ = some (.int .i64 0) := (qb_ BK194.out 0).trans rfl; have hcz23_1 : w20.cell? ⟨gb194, 1, none⟩ = some (.int .i64 0) := (qb_ BK194.out 1).trans rfl; have hcz23_2 : w20.cell? ⟨gb194, 2, none⟩ = some (.int .i64 0) := (qb_ BK194.out 2).trans rfl; have hcz23_3 : w20.cell? ⟨gb194, 3, none⟩ = some (.bool false) := (qb_ BK194.out 3).trans rfl; have hcz23_4 : w20.cell? ⟨gb194, 4, none⟩ = some (.bool false) := (qb_ BK194.out 4).trans rfl; have hfz23_0 := qg_ BK194.out 0; have hfz23_1 := qg_ BK194.out 1; have hfz23_2 := qg_ BK194.out 2; have hfz23_3 := qg_ BK194.out 3; have hfz23_4 := qg_ BK194.out 4))
         go_roundg k1
         case measure => have := HK1.out; omega
         case rel => exact ⟨(x9_1), (wrap64 (x24_1 + 1)), (by first | rfl | (simp; done) | (simp [*]; done)), H', ⟨by have := HK1.out; omega⟩, ⟨by (with_reducible repeat (first | apply Kd.qo_ | apply Kd.qp_)); exact Kd.R_mono (Kd.R_far (p := ⟨gb194, 4, none⟩) (Kd.R_far (p := ⟨gb194, 3, none⟩) (Kd.R_far (p := ⟨gb194, 2, none⟩) (Kd.R_far (p := ⟨gb194, 1, none⟩) (Kd.R_far (p := ⟨gb194, 0, none⟩) (Kd.R_types HO_9.out BK194.out (by decide)) (fun _ hk => hk.2) (.int .i64 ((rd_T34 t181 x24_1).f0))) (fun _ hk => hk.2) (.int .i64 ((rd_T34 t181 x24_1).f1))) (fun _ hk => hk.2) (.int .i64 ((rd_T34 t181 x24_1).f2))) (fun _ hk => hk.2) (.bool ((rd_T34 t181 x24_1).f3))) (fun _ hk => hk.2) (.bool true)) (fun _ hk => trivial)⟩, ⟨by (with_reducible repeat (first | apply Kd.qo_ | apply Kd.qp_)); exact Kd.R_mono (Kd.R_far (p := ⟨gb194, 4, none⟩) (Kd.R_far (p := ⟨gb194, 3, none⟩) (Kd.R_far (p := ⟨gb194, 2, none⟩) (Kd.R_far (p := ⟨gb194, 1, none⟩) (Kd.R_far (p := ⟨gb194, 0, none⟩) (Kd.R_mono HO_22.out (fun k_ hk => (⟨hk, hk.2⟩ : _ ∧ k_ ≠ gb194))) (fun _ hk => hk.2) (.int .i64 ((rd_T34 t181 x24_1).f0))) (fun _ hk => hk.2) (.int .i64 ((rd_T34 t181 x24_1).f1))) (fun _ hk => hk.2) (.int .i64 ((rd_T34 t181 x24_1).f2))) (fun _ hk => hk.2) (.bool ((rd_T34 t181 x24_1).f3))) (fun _ hk => hk.2) (.bool true)) (fun _ hk => trivial)⟩, ⟨by (with_reducible repeat (first | refine qd_ ?_ _ | refine qh_ ?_)); refine q7_ ?_ NB180_194.out _; (with_reducible repeat (first | refine qd_ ?_ _ | refine qh_ ?_)); refine q7_ ?_ NB180_194.out _; (with_reducible repeat (first | refine qd_ ?_ _ | refine qh_ ?_)); refine q7_ ?_ NB180_194.out _; (with_reducible repeat (first | refine qd_ ?_ _ | refine qh_ ?_)); refine q7_ ?_ NB180_194.out _; (with_reducible repeat (first | refine qd_ ?_ _ | refine qh_ ?_)); refine q7_ ?_ NB180_194.out _; (with_reducible repeat (first | refine qd_ ?_ _ | refine qh_ ?_)); exact BK180.out⟩, ⟨by (with_reducible repeat (first | refine qd_ ?_ _ | refine qh_ ?_)); refine q7_ ?_ NB189_194.out _; (with_reducible repeat (first | refine qd_ ?_ _ | refine qh_ ?_)); refine q7_ ?_ NB189_194.out _; (with_reducible repeat (first | refine qd_ ?_ _ | refine qh_ ?_)); refine q7_ ?_ NB189_194.out _; (with_reducible repeat (first | refine qd_ ?_ _ | refine qh_ ?_)); refine q7_ ?_ NB189_194.out _; (with_reducible repeat (first | refine qd_ ?_ _ | refine qh_ ?_)); refine q7_ ?_ NB189_194.out _; (with_reducible repeat (first | refine qd_ ?_ _ | refine qh_ ?_)); exact BK189.out⟩, ⟨by repeat (first | (with_reducible first | exact HB.out | apply qe_ | apply qa_ | apply qc_ | refine qf_ ?_ GE180.out | refine qf_ ?_ GE189.out | refine qf_ ?_ GE194.out) | exact HB.out)⟩⟩
        ·replace c19 := Bool.eq_false_iff.mpr c19
         subst c19
         have H1 : (if ((rd_T34 t181 x24_1).f3 = true) then (q4_.l0 k1 x9_1 t181 (t181.length : Int) (wrap64 (x24_1 + 1)) t187 t188) else (if 0 ≤ ((rd_T34 t181 x24_1).f1) then (if ((rd_T34 t181 x24_1).f1) < (x9_1.length : Int) then (q4_.l0 k1 (x9_1.set (((rd_T34 t181 x24_1).f1) : Int).toNat (wrap64 ((rd x9_1 ((rd_T34 t181 x24_1).f1)) + 1))) t181 (t181.length : Int) (wrap64 (x24_1 + 1)) t187 t188) else (none)) else (none))) = some (r1, r2, r3) := by rw [if_neg (show ¬ (false = true) by decide)] at H; exact H
         clear H
         have H := H1
         clear H1
         obtain ⟨bq24, hbq24⟩ : ∃ b_ : Bool, b_ = ((rd_T34 t181 x24_1).f3) := ⟨_, rfl⟩
         replace H : (if (bq24 = true) then (q4_.l0 k1 x9_1 t181 (t181.length : Int) (wrap64 (x24_1 + 1)) t187 t188) else (if 0 ≤ ((rd_T34 t181 x24_1).f1) then (if ((rd_T34 t181 x24_1).f1) < (x9_1.length : Int) then (q4_.l0 k1 (x9_1.set (((rd_T34 t181 x24_1).f1) : Int).toNat (wrap64 ((rd x9_1 ((rd_T34 t181 x24_1).f1)) + 1))) t181 (t181.length : Int) (wrap64 (x24_1 + 1)) t187 t188) else (none)) else (none))) = some (r1, r2, r3) := by rw [← hbq24] at H; exact H
         have Nbq24 := qi_.mk hbq24
         clear hbq24
         by_cases c25 : (bq24 = true)
         ·subst c25
          have H1 : (q4_.l0 k1 x9_1 t181 (t181.length : Int) (wrap64 (x24_1 + 1)) t187 t188) = some (r1, r2, r3) := by rw [if_pos rfl] at H; exact H
          clear H
          have H := H1
          clear H1
          have H' := qi_.mk H
          clear H
          have p193 : 0 ≤ (x24_1 : Int) := of_decide_eq_true (by assumption)
          have q193 : x24_1 < (t181.length : Int) := of_decide_eq_true (by assumption)
          obtain ⟨ad193, e193, hx193_0, hx193_1, hx193_2, hx193_3, hx193_4⟩ := at_T34 (Kd.R_reads' HO_22.out).2.2 x24_1 p193 q193
          (try rw [← Nbq18.out] at hx193_3)
          (try rw [← Nbq24.out] at hx193_3)
          (try rw [← Nbq18.out] at hx193_4)
          (try rw [← Nbq24.out] at hx193_4)
          cases e193
          replace p193 := eq_true p193
          replace q193 := eq_true q193
          go_wp2_with (first | ((with_reducible refine gate_dst (N := 11) rfl ?_); refine q1_ ?hg (N := 11) ?hd (cs := #[.int .i64 0, .int .i64 0, .int .i64 0, .bool false, .bool false]) (t := 34) ?hr ?_; (case hd => rfl); (case hg => rfl); (case hr => first | (go_simp; done) | (go_simp; rfl)); intro gb194 hg w26 hbox hb; have n0_ := qi_.mk (Kd.R_below (by (with_reducible repeat (first | apply Kd.qo_ | apply Kd.qp_)); exact HO_9.out) hb); have n1_ := qi_.mk (Kd.R_below (Kd.R_elderB (by (with_reducible repeat (first | apply Kd.qo_ | apply Kd.qp_)); exact HO_22.out) gb194 (Nat.le_of_eq hg.symm)) hb); have n2_ := qi_.mk (qn_ (g := gb180) (o := .cells #[.int .i64 0, .int .i64 0] 26 (0, 0)) (by (with_reducible repeat (first | refine qd_ ?_ _ | refine qh_ ?_)); exact BK180.out) hb); have n3_ := qi_.mk (qn_ (g := gb189) (o := .cells #[.int .i64 t187, .int .i64 t188] 26 (0, 0)) (by (with_reducible repeat (first | refine qd_ ?_ _ | refine qh_ ?_)); exact BK189.out) hb); have n4_ := qi_.mk (qr_ (by repeat (first | (with_reducible first | exact HB.out | apply qe_ | apply qa_ | apply qc_ | refine qf_ ?_ GE180.out | refine qf_ ?_ GE189.out) | exact HB.out)) hb); have n5_ := qi_.mk (hbox); have n6_ := qi_.mk ((by rw [hg]; exact (qq_ (by repeat (first | (with_reducible first | exact HB.out | apply qe_ | apply qa_ | apply qc_ | refine qf_ ?_ GE180.out | refine qf_ ?_ GE189.out) | exact HB.out))) : w.heap.size ≤ gb194)); have n7_ := qi_.mk ((by rw [hg]; exact (qq_ (by repeat (first | (with_reducible first | exact HB.out | apply qe_ | apply qa_ | apply qc_ | refine qf_ ?_ GE180.out | refine qf_ ?_ GE189.out) | exact HB.out))) : w.heap.size ≤ gb194)); have n8_ := qi_.mk ((by rw [hg]; exact Nat.ne_of_lt (blk_lt (g := gb180) (o := .cells #[.int .i64 0, .int .i64 0] 26 (0, 0)) (by (with_reducible repeat (first | refine qd_ ?_ _ | refine qh_ ?_)); exact BK180.out)) : gb180 ≠ gb194)); have n9_ := qi_.mk ((by rw [hg]; exact Nat.ne_of_gt (blk_lt (g := gb180) (o := .cells #[.int .i64 0, .int .i64 0] 26 (0, 0)) (by (with_reducible repeat (first | refine qd_ ?_ _ | refine qh_ ?_)); exact BK180.out)) : gb194 ≠ gb180)); have n10_ := qi_.mk ((by rw [hg]; exact Nat.ne_of_lt (blk_lt (g := gb189) (o := .cells #[.int .i64 t187, .int .i64 t188] 26 (0, 0)) (by (with_reducible repeat (first | refine qd_ ?_ _ | refine qh_ ?_)); exact BK189.out)) : gb189 ≠ gb194)); have n11_ := qi_.mk ((by rw [hg]; exact Nat.ne_of_gt (blk_lt (g := gb189) (o := .cells #[.int .i64 t187, .int .i64 t188] 26 (0, 0)) (by (with_reducible repeat (first | refine qd_ ?_ _ | refine qh_ ?_)); exact BK189.out)) : gb194 ≠ gb189)); clear HO_9; clear HO_22; clear BK180; clear BK189; clear HB; have HO_9 := n0_; have HO_22 := n1_; have BK180 := n2_; have BK189 := n3_; have HB := n4_; have BK194 := n5_; have GW194 := n6_; have GE194 := n7_; have NB180_194 := n8_; have NB194_180 := n9_; have NB189_194 := n10_; have NB194_189 := n11_; clear n0_ n1_ n2_ n3_ n4_ n5_ n6_ n7_ n8_ n9_ n10_ n11_; clear hb hbox hg; have hnb27 := NB194_180.out; have hnc27 := NB180_194.out; have hnb28 := NB194_189.out; have hnc28 := NB189_194.out; have hcz29_0 : w26.cell? ⟨gb194, 0, none⟩ = some (.int .i64 0) := (qb_ BK194.out 0).trans rfl; have hcz29_1 : w26.cell? ⟨gb194, 1, none⟩ = some (.int .i64 0) := (qb_ BK194.out 1).trans rfl; have hcz29_2 : w26.cell? ⟨gb194, 2, none⟩ = some (.int .i64 0) := (qb_ BK194.out 2).trans rfl; have hcz29_3 : w26.cell? ⟨gb194, 3, none⟩ = some (.bool false) := (qb_ BK194.out 3).trans rfl; have hcz29_4 : w26.cell? ⟨gb194, 4, none⟩ = some (.bool false) := (qb_ BK194.out 4).trans rfl; have hfz29_0 := qg_ BK194.out 0; have hfz29_1 := qg_ BK194.out 1; have hfz29_2 := qg_ BK194.out 2; have hfz29_3 := qg_ BK194.out 3; have hfz29_4 := qg_ BK194.out 4))
          go_roundg k1
          case measure => have := HK1.out; omega
          case rel => exact ⟨(x9_1), (wrap64 (x24_1 + 1)), (by first | rfl | (simp; done) | (simp [*]; done)), H', ⟨by have := HK1.out; omega⟩, ⟨by (with_reducible repeat (first | apply Kd.qo_ | apply Kd.qp_)); exact Kd.R_mono (Kd.R_far (p := ⟨gb194, 4, none⟩) (Kd.R_far (p := ⟨gb194, 3, none⟩) (Kd.R_far (p := ⟨gb194, 2, none⟩) (Kd.R_far (p := ⟨gb194, 1, none⟩) (Kd.R_far (p := ⟨gb194, 0, none⟩) (Kd.R_types HO_9.out BK194.out (by decide)) (fun _ hk => hk.2) (.int .i64 ((rd_T34 t181 x24_1).f0))) (fun _ hk => hk.2) (.int .i64 ((rd_T34 t181 x24_1).f1))) (fun _ hk => hk.2) (.int .i64 ((rd_T34 t181 x24_1).f2))) (fun _ hk => hk.2) (.bool true)) (fun _ hk => hk.2) (.bool false)) (fun _ hk => trivial)⟩, ⟨by (with_reducible repeat (first | apply Kd.qo_ | apply Kd.qp_)); exact Kd.R_mono (Kd.R_far (p := ⟨gb194, 4, none⟩) (Kd.R_far (p := ⟨gb194, 3, none⟩) (Kd.R_far (p := ⟨gb194, 2, none⟩) (Kd.R_far (p := ⟨gb194, 1, none⟩) (Kd.R_far (p := ⟨gb194, 0, none⟩) (Kd.R_mono HO_22.out (fun k_ hk => (⟨hk, hk.2⟩ : _ ∧ k_ ≠ gb194))) (fun _ hk => hk.2) (.int .i64 ((rd_T34 t181 x24_1).f0))) (fun _ hk => hk.2) (.int .i64 ((rd_T34 t181 x24_1).f1))) (fun _ hk => hk.2) (.int .i64 ((rd_T34 t181 x24_1).f2))) (fun _ hk => hk.2) (.bool true)) (fun _ hk => hk.2) (.bool false)) (fun _ hk => trivial)⟩, ⟨by (with_reducible repeat (first | refine qd_ ?_ _ | refine qh_ ?_)); refine q7_ ?_ NB180_194.out _; (with_reducible repeat (first | refine qd_ ?_ _ | refine qh_ ?_)); refine q7_ ?_ NB180_194.out _; (with_reducible repeat (first | refine qd_ ?_ _ | refine qh_ ?_)); refine q7_ ?_ NB180_194.out _; (with_reducible repeat (first | refine qd_ ?_ _ | refine qh_ ?_)); refine q7_ ?_ NB180_194.out _; (with_reducible repeat (first | refine qd_ ?_ _ | refine qh_ ?_)); refine q7_ ?_ NB180_194.out _; (with_reducible repeat (first | refine qd_ ?_ _ | refine qh_ ?_)); exact BK180.out⟩, ⟨by (with_reducible repeat (first | refine qd_ ?_ _ | refine qh_ ?_)); refine q7_ ?_ NB189_194.out _; (with_reducible repeat (first | refine qd_ ?_ _ | refine qh_ ?_)); refine q7_ ?_ NB189_194.out _; (with_reducible repeat (first | refine qd_ ?_ _ | refine qh_ ?_)); refine q7_ ?_ NB189_194.out _; (with_reducible repeat (first | refine qd_ ?_ _ | refine qh_ ?_)); refine q7_ ?_ NB189_194.out _; (with_reducible repeat (first | refine qd_ ?_ _ | refine qh_ ?_)); refine q7_ ?_ NB189_194.out _; (with_reducible repeat (first | refine qd_ ?_ _ | refine qh_ ?_)); exact BK189.out⟩, ⟨by repeat (first | (with_reducible first | exact HB.out | apply qe_ | apply qa_ | apply qc_ | refine qf_ ?_ GE180.out | refine qf_ ?_ GE189.out | refine qf_ ?_ GE194.out) | exact HB.out)⟩⟩
         ·replace c25 := Bool.eq_false_iff.mpr c25
          subst c25
          have H1 : (if 0 ≤ ((rd_T34 t181 x24_1).f1) then (if ((rd_T34 t181 x24_1).f1) < (x9_1.length : Int) then (q4_.l0 k1 (x9_1.set (((rd_T34 t181 x24_1).f1) : Int).toNat (wrap64 ((rd x9_1 ((rd_T34 t181 x24_1).f1)) + 1))) t181 (t181.length : Int) (wrap64 (x24_1 + 1)) t187 t188) else (none)) else (none)) = some (r1, r2, r3) := by rw [if_neg (show ¬ (false = true) by decide)] at H; exact H
          clear H
          have H := H1
          clear H1
          by_cases c30 : 0 ≤ ((rd_T34 t181 x24_1).f1)
          ·rw [if_pos c30] at H
           have c30b0 : decide (0 ≤ ((rd_T34 t181 x24_1).f1)) = true := decide_eq_true c30
           clear c30
           by_cases c31 : ((rd_T34 t181 x24_1).f1) < (x9_1.length : Int)
           ·rw [if_pos c31] at H
            have c31b0 : decide (((rd_T34 t181 x24_1).f1) < (x9_1.length : Int)) = true := decide_eq_true c31
            clear c31
            obtain ⟨y196, hy196⟩ : ∃ y_ : List Int, y_ = (x9_1.set (((rd_T34 t181 x24_1).f1) : Int).toNat (wrap64 ((rd x9_1 ((rd_T34 t181 x24_1).f1)) + 1))) := ⟨_, rfl⟩
            replace H : (q4_.l0 k1 y196 t181 (t181.length : Int) (wrap64 (x24_1 + 1)) t187 t188) = some (r1, r2, r3) := by first | (rw [hy196]; with_reducible exact H) | (have H2_ := (Option.bind_some _ _).symm.trans H; rw [hy196]; with_reducible exact H2_) | (have H2_ := (Option.bind_some _ _).symm.trans H; with_reducible exact H2_) | with_reducible exact H | (rw [hy196]; exact H) | exact H
            have Ny196 := qi_.mk hy196
            clear hy196
            have H' := qi_.mk H
            clear H
            have p193 : 0 ≤ (x24_1 : Int) := of_decide_eq_true (by assumption)
            have q193 : x24_1 < (t181.length : Int) := of_decide_eq_true (by assumption)
            obtain ⟨ad193, e193, hx193_0, hx193_1, hx193_2, hx193_3, hx193_4⟩ := at_T34 (Kd.R_reads' HO_22.out).2.2 x24_1 p193 q193
            (try rw [← Nbq18.out] at hx193_3)
            (try rw [← Nbq24.out] at hx193_3)
            (try rw [← Nbq18.out] at hx193_4)
            (try rw [← Nbq24.out] at hx193_4)
            cases e193
            replace p193 := eq_true p193
            replace q193 := eq_true q193
            go_wp2_with (first | ((with_reducible refine gate_dst (N := 11) rfl ?_); refine q1_ ?hg (N := 11) ?hd (cs := #[.int .i64 0, .int .i64 0, .int .i64 0, .bool false, .bool false]) (t := 34) ?hr ?_; (case hd => rfl); (case hg => rfl); (case hr => first | (go_simp; done) | (go_simp; rfl)); intro gb194 hg w33 hbox hb; have n0_ := qi_.mk (Kd.R_below (by (with_reducible repeat (first | apply Kd.qo_ | apply Kd.qp_)); exact HO_9.out) hb); have n1_ := qi_.mk (Kd.R_below (Kd.R_elderB (by (with_reducible repeat (first | apply Kd.qo_ | apply Kd.qp_)); exact HO_22.out) gb194 (Nat.le_of_eq hg.symm)) hb); have n2_ := qi_.mk (qn_ (g := gb180) (o := .cells #[.int .i64 0, .int .i64 0] 26 (0, 0)) (by (with_reducible repeat (first | refine qd_ ?_ _ | refine qh_ ?_)); exact BK180.out) hb); have n3_ := qi_.mk (qn_ (g := gb189) (o := .cells #[.int .i64 t187, .int .i64 t188] 26 (0, 0)) (by (with_reducible repeat (first | refine qd_ ?_ _ | refine qh_ ?_)); exact BK189.out) hb); have n4_ := qi_.mk (qr_ (by repeat (first | (with_reducible first | exact HB.out | apply qe_ | apply qa_ | apply qc_ | refine qf_ ?_ GE180.out | refine qf_ ?_ GE189.out) | exact HB.out)) hb); have n5_ := qi_.mk (hbox); have n6_ := qi_.mk ((by rw [hg]; exact (qq_ (by repeat (first | (with_reducible first | exact HB.out | apply qe_ | apply qa_ | apply qc_ | refine qf_ ?_ GE180.out | refine qf_ ?_ GE189.out) | exact HB.out))) : w.heap.size ≤ gb194)); have n7_ := qi_.mk ((by rw [hg]; exact (qq_ (by repeat (first | (with_reducible first | exact HB.out | apply qe_ | apply qa_ | apply qc_ | refine qf_ ?_ GE180.out | refine qf_ ?_ GE189.out) | exact HB.out))) : w.heap.size ≤ gb194)); have n8_ := qi_.mk ((by rw [hg]; exact Nat.ne_of_lt (blk_lt (g := gb180) (o := .cells #[.int .i64 0, .int .i64 0] 26 (0, 0)) (by (with_reducible repeat (first | refine qd_ ?_ _ | refine qh_ ?_)); exact BK180.out)) : gb180 ≠ gb194)); have n9_ := qi_.mk ((by rw [hg]; exact Nat.ne_of_gt (blk_lt (g := gb180) (o := .cells #[.int .i64 0, .int .i64 0] 26 (0, 0)) (by (with_reducible repeat (first | refine qd_ ?_ _ | refine qh_ ?_)); exact BK180.out)) : gb194 ≠ gb180)); have n10_ := qi_.mk ((by rw [hg]; exact Nat.ne_of_lt (blk_lt (g := gb189) (o := .cells #[.int .i64 t187, .int .i64 t188] 26 (0, 0)) (by (with_reducible repeat (first | refine qd_ ?_ _ | refine qh_ ?_)); exact BK189.out)) : gb189 ≠ gb194)); have n11_ := qi_.mk ((by rw [hg]; exact Nat.ne_of_gt (blk_lt (g := gb189) (o := .cells #[.int .i64 t187, .int .i64 t188] 26 (0, 0)) (by (with_reducible repeat (first | refine qd_ ?_ _ | refine qh_ ?_)); exact BK189.out)) : gb194 ≠ gb189)); clear HO_9; clear HO_22; clear BK180; clear BK189; clear HB; have HO_9 := n0_; have HO_22 := n1_; have BK180 := n2_; have BK189 := n3_; have HB := n4_; have BK194 := n5_; have GW194 := n6_; have GE194 := n7_; have NB180_194 := n8_; have NB194_180 := n9_; have NB189_194 := n10_; have NB194_189 := n11_; clear n0_ n1_ n2_ n3_ n4_ n5_ n6_ n7_ n8_ n9_ n10_ n11_; clear hb hbox hg; have hnb34 := NB194_180.out; have hnc34 := NB180_194.out; have hnb35 := NB194_189.out; have hnc35 := NB189_194.out; have hcz36_0 : w33.cell? ⟨gb194, 0, none⟩ = some (.int .i64 0) := (qb_ BK194.out 0).trans rfl; have hcz36_1 : w33.cell? ⟨gb194, 1, none⟩ = some (.int .i64 0) := (qb_ BK194.out 1).trans rfl; have hcz36_2 : w33.cell? ⟨gb194, 2, none⟩ = some (.int .i64 0) := (qb_ BK194.out 2).trans rfl; have hcz36_3 : w33.cell? ⟨gb194, 3, none⟩ = some (.bool false) := (qb_ BK194.out 3).trans rfl; have hcz36_4 : w33.cell? ⟨gb194, 4, none⟩ = some (.bool false) := (qb_ BK194.out 4).trans rfl; have hfz36_0 := qg_ BK194.out 0; have hfz36_1 := qg_ BK194.out 1; have hfz36_2 := qg_ BK194.out 2; have hfz36_3 := qg_ BK194.out 3; have hfz36_4 := qg_ BK194.out 4) | ((with_reducible refine gate_store (t := 34) (p := 11) rfl ?_); refine store_event (t := 34) (p := 11) (v := ?vo_w37) (w1 := (((((w33.setCell ⟨gb194, 0, none⟩ (.int .i64 ((rd_T34 t181 x24_1).f0))).setCell ⟨gb194, 1, none⟩ (.int .i64 ((rd_T34 t181 x24_1).f1))).setCell ⟨gb194, 2, none⟩ (.int .i64 ((rd_T34 t181 x24_1).f2))).setCell ⟨gb194, 3, none⟩ (.bool false)).setCell ⟨gb194, 4, none⟩ (.bool false))) ?hg ?ho ?hn ?hr ?_; (case ho => rfl); (case hg => rfl); (case hn => rfl); (case hr => first | (go_simp; done) | (go_simp; rfl)); intro w37 hw; have n0_ : qi_ (Kd.R (Kd.int .i64) 3 w37 w.heap.size (fun _ => True) v191 x9_1) := ⟨(by rw [hw]; exact (by (with_reducible repeat (first | apply Kd.qo_ | apply Kd.qp_)); exact Kd.R_mono (Kd.R_far (p := ⟨gb194, 4, none⟩) (Kd.R_far (p := ⟨gb194, 3, none⟩) (Kd.R_far (p := ⟨gb194, 2, none⟩) (Kd.R_far (p := ⟨gb194, 1, none⟩) (Kd.R_far (p := ⟨gb194, 0, none⟩) (Kd.R_types HO_9.out BK194.out (by decide)) (fun _ hk => hk.2) (.int .i64 ((rd_T34 t181 x24_1).f0))) (fun _ hk => hk.2) (.int .i64 ((rd_T34 t181 x24_1).f1))) (fun _ hk => hk.2) (.int .i64 ((rd_T34 t181 x24_1).f2))) (fun _ hk => hk.2) (.bool false)) (fun _ hk => hk.2) (.bool false)) (fun _ hk => trivial)))⟩; have n1_ : qi_ (Kd.R k34 34 w37 w.heap.size (fun k_ => k_ ≠ gb194) (.slice (some ad193) t181.length co14) t181) := ⟨(by rw [hw]; exact (by (with_reducible repeat (first | apply Kd.qo_ | apply Kd.qp_)); exact Kd.R_mono (Kd.R_far (p := ⟨gb194, 4, none⟩) (Kd.R_far (p := ⟨gb194, 3, none⟩) (Kd.R_far (p := ⟨gb194, 2, none⟩) (Kd.R_far (p := ⟨gb194, 1, none⟩) (Kd.R_far (p := ⟨gb194, 0, none⟩) (Kd.R_mono HO_22.out (fun k_ hk => (⟨hk, hk.2⟩ : _ ∧ k_ ≠ gb194))) (fun _ hk => hk.2) (.int .i64 ((rd_T34 t181 x24_1).f0))) (fun _ hk => hk.2) (.int .i64 ((rd_T34 t181 x24_1).f1))) (fun _ hk => hk.2) (.int .i64 ((rd_T34 t181 x24_1).f2))) (fun _ hk => hk.2) (.bool false)) (fun _ hk => hk.2) (.bool false)) (fun _ hk => hk.1.2)))⟩; have n2_ : qi_ (w37.heap[gb180]? = some (.cells #[.int .i64 0, .int .i64 0] 26 (0, 0))) := ⟨(by rw [hw]; exact (by (with_reducible repeat (first | refine qd_ ?_ _ | refine qh_ ?_)); refine q7_ ?_ NB180_194.out _; (with_reducible repeat (first | refine qd_ ?_ _ | refine qh_ ?_)); refine q7_ ?_ NB180_194.out _; (with_reducible repeat (first | refine qd_ ?_ _ | refine qh_ ?_)); refine q7_ ?_ NB180_194.out _; (with_reducible repeat (first | refine qd_ ?_ _ | refine qh_ ?_)); refine q7_ ?_ NB180_194.out _; (with_reducible repeat (first | refine qd_ ?_ _ | refine qh_ ?_)); refine q7_ ?_ NB180_194.out _; (with_reducible repeat (first | refine qd_ ?_ _ | refine qh_ ?_)); exact BK180.out))⟩; have n3_ : qi_ (w37.heap[gb189]? = some (.cells #[.int .i64 t187, .int .i64 t188] 26 (0, 0))) := ⟨(by rw [hw]; exact (by (with_reducible repeat (first | refine qd_ ?_ _ | refine qh_ ?_)); refine q7_ ?_ NB189_194.out _; (with_reducible repeat (first | refine qd_ ?_ _ | refine qh_ ?_)); refine q7_ ?_ NB189_194.out _; (with_reducible repeat (first | refine qd_ ?_ _ | refine qh_ ?_)); refine q7_ ?_ NB189_194.out _; (with_reducible repeat (first | refine qd_ ?_ _ | refine qh_ ?_)); refine q7_ ?_ NB189_194.out _; (with_reducible repeat (first | refine qd_ ?_ _ | refine qh_ ?_)); refine q7_ ?_ NB189_194.out _; (with_reducible repeat (first | refine qd_ ?_ _ | refine qh_ ?_)); exact BK189.out))⟩; have n4_ : qi_ (w37.heap[gb194]? = some (.cells #[.int .i64 ((rd_T34 t181 x24_1).f0), .int .i64 ((rd_T34 t181 x24_1).f1), .int .i64 ((rd_T34 t181 x24_1).f2), .bool false, .bool false] 34 (0, 0))) := ⟨(by rw [hw]; exact (by (with_reducible repeat (first | refine qd_ ?_ _ | refine qh_ ?_)); refine q6_ (cs := #[.int .i64 ((rd_T34 t181 x24_1).f0), .int .i64 ((rd_T34 t181 x24_1).f1), .int .i64 ((rd_T34 t181 x24_1).f2), .bool false, .bool false]) ?_ 4 _ rfl; (with_reducible repeat (first | refine qd_ ?_ _ | refine qh_ ?_)); refine q6_ (cs := #[.int .i64 ((rd_T34 t181 x24_1).f0), .int .i64 ((rd_T34 t181 x24_1).f1), .int .i64 ((rd_T34 t181 x24_1).f2), .bool false, .bool false]) ?_ 3 _ rfl; (with_reducible repeat (first | refine qd_ ?_ _ | refine qh_ ?_)); refine q6_ (cs := #[.int .i64 ((rd_T34 t181 x24_1).f0), .int .i64 ((rd_T34 t181 x24_1).f1), .int .i64 0, .bool false, .bool false]) ?_ 2 _ rfl; (with_reducible repeat (first | refine qd_ ?_ _ | refine qh_ ?_)); refine q6_ (cs := #[.int .i64 ((rd_T34 t181 x24_1).f0), .int .i64 0, .int .i64 0, .bool false, .bool false]) ?_ 1 _ rfl; (with_reducible repeat (first | refine qd_ ?_ _ | refine qh_ ?_)); refine q6_ (cs := #[.int .i64 0, .int .i64 0, .int .i64 0, .bool false, .bool false]) ?_ 0 _ rfl; (with_reducible repeat (first | refine qd_ ?_ _ | refine qh_ ?_)); exact BK194.out))⟩; have n5_ : qi_ (Below w.heap.size w w37) := ⟨(by rw [hw]; exact (by repeat (first | (with_reducible first | exact HB.out | apply qe_ | apply qa_ | apply qc_ | refine qf_ ?_ GE180.out | refine qf_ ?_ GE189.out | refine qf_ ?_ GE194.out) | exact HB.out)))⟩; clear hw; clear HO_9; clear HO_22; clear BK180; clear BK189; clear BK194; clear HB; have HO_9 := n0_; have HO_22 := n1_; have BK180 := n2_; have BK189 := n3_; have BK194 := n4_; have HB := n5_; clear n0_ n1_ n2_ n3_ n4_ n5_; have hcz38_0 : w37.cell? ⟨gb194, 0, none⟩ = some (.int .i64 ((rd_T34 t181 x24_1).f0)) := (qb_ BK194.out 0).trans rfl; have hcz38_1 : w37.cell? ⟨gb194, 1, none⟩ = some (.int .i64 ((rd_T34 t181 x24_1).f1)) := (qb_ BK194.out 1).trans rfl; have hcz38_2 : w37.cell? ⟨gb194, 2, none⟩ = some (.int .i64 ((rd_T34 t181 x24_1).f2)) := (qb_ BK194.out 2).trans rfl; have hcz38_3 : w37.cell? ⟨gb194, 3, none⟩ = some (.bool false) := (qb_ BK194.out 3).trans rfl; have hcz38_4 : w37.cell? ⟨gb194, 4, none⟩ = some (.bool false) := (qb_ BK194.out 4).trans rfl; have hfz38_0 := qg_ BK194.out 0; have hfz38_1 := qg_ BK194.out 1; have hfz38_2 := qg_ BK194.out 2; have hfz38_3 := qg_ BK194.out 3; have hfz38_4 := qg_ BK194.out 4; obtain ⟨Ao39, co39, eo39⟩ := Kd.R_slice HO_9.out; subst eo39; have p195 : 0 ≤ (((rd_T34 t181 x24_1).f1) : Int) := of_decide_eq_true (by assumption); have q195 : ((rd_T34 t181 x24_1).f1) < (x9_1.length : Int) := of_decide_eq_true (by assumption); obtain ⟨ad195, e195, hx195_0⟩ := Kd.at_int (Kd.R_reads' HO_9.out).2.2 ((rd_T34 t181 x24_1).f1) p195 q195; cases e195; replace p195 := eq_true p195; replace q195 := eq_true q195; have p32 : 0 ≤ (((rd_T34 t181 x24_1).f1) : Int) := of_decide_eq_true (by assumption); have q32 : (((rd_T34 t181 x24_1).f1) : Int) < ((x9_1.length : Int) : Int) := of_decide_eq_true (by assumption); obtain ⟨go32, co32, eo32, gb32, gl32, cl32, HG32⟩ := Kd.R_form HO_9.out (by omega); (first | cases eo32 | (injection eo32 with ea_ en_ ec_; (first | subst ea_ | (injection ea_ with ea_; subst ea_)); subst ec_; clear en_)); have GB32 := qi_.mk gb32; have GG32 := qi_.mk HG32; clear gb32 gl32 HG32; (first | simp only [add_plain] at hx195_0 | skip); obtain ⟨hx32_0, hf32_0⟩ := Kd.R_celln 0 HO_9.out (((rd_T34 t181 x24_1).f1) : Int) p32 q32; replace p32 := eq_true p32; replace q32 := eq_true q32; obtain ⟨hy40_, hz40_⟩ := Kd.R_celln 0 HO_9.out (((rd_T34 t181 x24_1).f1) : Int) (of_decide_eq_true (by assumption)) (of_decide_eq_true (by assumption)); have HP40 := Kd.R_putg HO_9.out (((rd_T34 t181 x24_1).f1) : Int) (wrap64 ((rd x9_1 ((rd_T34 t181 x24_1).f1)) + 1))) | ((with_reducible refine gate_store (t := 3) (p := 42) rfl ?_); refine store_event (t := 3) (p := 42) (v := ?vo_w41) (w1 := (w37.setCell ⟨go32, (((rd_T34 t181 x24_1).f1) : Int).toNat, none⟩ (.int .i64 (wrap64 ((rd x9_1 ((rd_T34 t181 x24_1).f1)) + 1))))) ?hg ?ho ?hn ?hr ?_; (case ho => rfl); (case hg => rfl); (case hn => rfl); (case hr => first | (go_simp; done) | (go_simp; rfl)); intro w41 hw; have hg : w37.grownBy w41 (some go32) := (by rw [hw]; exact HP40.2); have hp_ : Kd.R (Kd.int .i64) 3 w41 w.heap.size (fun _ => True) (.slice (some ⟨go32, 0, none⟩) x9_1.length co39) y196 := (by rw [hw, Ny196.out]; exact HP40.1); clear HP40; have n0_ := qi_.mk (hp_); have n1_ := qi_.mk (Kd.R_over' (v := (.slice (some ⟨go32, 0, none⟩) x9_1.length co39)) (by (with_reducible repeat (first | apply Kd.qo_ | apply Kd.qp_)); exact HO_22.out) (Kd.R_typed HO_9.out) (by decide) hg); have n2_ := qi_.mk (blk_grown (g := gb180) (o := .cells #[.int .i64 0, .int .i64 0] 26 (0, 0)) (by (with_reducible repeat (first | refine qd_ ?_ _ | refine qh_ ?_)); exact BK180.out) hg (Kd.R_ne HO_9.out BK180.out (by decide))); have n3_ := qi_.mk (blk_grown (g := gb189) (o := .cells #[.int .i64 t187, .int .i64 t188] 26 (0, 0)) (by (with_reducible repeat (first | refine qd_ ?_ _ | refine qh_ ?_)); exact BK189.out) hg (Kd.R_ne HO_9.out BK189.out (by decide))); have n4_ := qi_.mk (blk_grown (g := gb194) (o := .cells #[.int .i64 ((rd_T34 t181 x24_1).f0), .int .i64 ((rd_T34 t181 x24_1).f1), .int .i64 ((rd_T34 t181 x24_1).f2), .bool false, .bool false] 34 (0, 0)) (by (with_reducible repeat (first | refine qd_ ?_ _ | refine qh_ ?_)); exact BK194.out) hg (Kd.R_ne HO_9.out BK194.out (by decide))); have n5_ := qi_.mk ((by rw [hw]; exact qf_ (HB.out) GB32.out : Below w.heap.size w w41)); clear HO_9; clear HO_22; clear BK180; clear BK189; clear BK194; clear HB; have HO_9 := n0_; have HO_22 := n1_; have BK180 := n2_; have BK189 := n3_; have BK194 := n4_; have HB := n5_; clear n0_ n1_ n2_ n3_ n4_ n5_; clear hg hw hp_))
            go_roundg k1
            case measure => have := HK1.out; omega
            case rel => exact ⟨(y196), (wrap64 (x24_1 + 1)), (by first | rfl | (simp; done) | (simp [*]; done)), H', ⟨by have := HK1.out; omega⟩, ⟨by (with_reducible repeat (first | apply Kd.qo_ | apply Kd.qp_)); exact HO_9.out⟩, ⟨by (with_reducible repeat (first | apply Kd.qo_ | apply Kd.qp_)); exact Kd.R_mono HO_22.out (fun _ hk => trivial)⟩, ⟨by (with_reducible repeat (first | refine qd_ ?_ _ | refine qh_ ?_)); exact BK180.out⟩, ⟨by (with_reducible repeat (first | refine qd_ ?_ _ | refine qh_ ?_)); exact BK189.out⟩, ⟨by repeat (first | (with_reducible first | exact HB.out | apply qe_ | apply qa_ | apply qc_ | refine qf_ ?_ GE180.out | refine qf_ ?_ GE189.out | refine qf_ ?_ GE194.out) | exact HB.out)⟩⟩
           ·rw [if_neg c31] at H
            exact absurd H (by simp)
          ·rw [if_neg c30] at H
           exact absurd H (by simp)
       ·rw [if_neg c17] at H
        exact absurd H (by simp)
      ·rw [if_neg c16] at H
       exact absurd H (by simp)
     ·rw [if_neg c15] at H
      have c15b0 : decide (x24_1 < (t181.length : Int)) = false := decide_eq_false c15
      clear c15
      simp only [Option.some.injEq, Prod.mk.injEq] at H
      obtain ⟨rfl, rfl, rfl⟩ := H
      try go_wp2
      have n0_ := qi_.mk (Kd.qp_ HO_9.out)
      have n1_ := qi_.mk (Kd.qp_ HO_22.out)
      have n2_ := qi_.mk (qh_ BK180.out)
      have n3_ := qi_.mk (qh_ BK189.out)
      have n4_ := qi_.mk (qc_ HB.out)
      clear HO_9
      clear HO_22
      clear BK180
      clear BK189
      clear HB
      have HO_9 := n0_
      have HO_22 := n1_
      have BK180 := n2_
      have BK189 := n3_
      have HB := n4_
      clear n0_ n1_ n2_ n3_ n4_
      refine start_ (n := 4) (S := fun w' => w'.cell? ⟨gb189, 0, none⟩ = some (.int .i64 t187) ∧ w'.cell? ⟨gb189, 1, none⟩ = some (.int .i64 t188)) (ds := []) #[false, false, false, false] (by kernel_rfl) rfl rfl ⟨(qb_ BK189.out 0).trans rfl, (qb_ BK189.out 1).trans rfl⟩ (fun hHeld => ?_)
      generalize wr.drew = w42 at HO_9 HO_22 BK180 BK189 HB hHeld ⊢
      refine pure_ (i := 0) (N := some 44) (v := ?_) (a' := ?_) #[true, false, false, false] rfl rfl (by kernel_rfl) (fun _ _ _ h => h) (Or.inl ⟨by rfl, ?_⟩) ?_ ?_
      rotate_left
      ·intro w'
       go_simp
       with_reducible rfl
      rotate_left
      ·simp only [Act.put, List.setIfInBounds_toArray, List.set_cons_zero, List.set_cons_succ, i64_w, i32_w]
       rfl
      refine pure_ (i := 2) (N := some 4) (v := ?_) (a' := ?_) #[true, false, true, false] rfl rfl (by kernel_rfl) (fun _ _ _ h => h) (Or.inl ⟨by rfl, ?_⟩) ?_ ?_
      rotate_left
      ·intro w'
       go_simp
       with_reducible rfl
      rotate_left
      ·simp only [Act.put, List.setIfInBounds_toArray, List.set_cons_zero, List.set_cons_succ, i64_w, i32_w]
       rfl
      refine take_ (i := 1) (N := some 45) (v := ?_) (a' := ?_) #[true, true, true, false] rfl rfl (by kernel_rfl) (fun _ _ _ h => h) (Or.inl ⟨by rfl, ?_⟩) hHeld ?_ ?_
      rotate_left
      ·rintro w' ⟨s0, s1⟩
       go_simp
       with_reducible rfl
      rotate_left
      ·simp only [Act.put, List.setIfInBounds_toArray, List.set_cons_zero, List.set_cons_succ, i64_w, i32_w]
       rfl
      refine one_ (i := 3) (N := none) #[true, true, true, true] rfl rfl (by kernel_rfl) (by decide) (fun K hK => ?_)
      have hs43 : w42.cell? ⟨gb180, 0, none⟩ = some (.int .i64 0) := (qb_ BK180.out 0).trans rfl
      have hfs43 := qg_ BK180.out 0
      have hns43_1 := NB189_180.out
      have hms43_1 := NB180_189.out
      have hs44 : w42.cell? ⟨gb180, 1, none⟩ = some (.int .i64 0) := (qb_ BK180.out 1).trans rfl
      have hfs44 := qg_ BK180.out 1
      have hns44_1 := NB189_180.out
      have hms44_1 := NB180_189.out
      refine skip_ (w1 := ?_) (by rfl) rfl ?_ ?_
      rotate_left
      ·go_simp
       rfl
      refine hK.out _ _ ⟨((cell_far (p := ⟨gb180, _, none⟩) NB189_180.out _).trans (((cell_far (p := ⟨gb180, _, none⟩) NB189_180.out _).trans (hHeld.1)))), ((cell_far (p := ⟨gb180, _, none⟩) NB189_180.out _).trans (((cell_far (p := ⟨gb180, _, none⟩) NB189_180.out _).trans (hHeld.2))))⟩ (fun hHeld => ?_)
      clear hK K
      refine done_ (by kernel_rfl) ?_
      try go_wp2
      refine bodyPost_ret (results_tc rfl _ _ gb180 26 #[.int .i64 t187, .int .i64 t188] (0, 0) _ rfl (by (with_reducible repeat (first | refine qd_ ?_ _ | refine qh_ ?_)); refine q6_ (cs := #[.int .i64 t187, .int .i64 0]) ?_ 1 _ rfl; (with_reducible repeat (first | refine qd_ ?_ _ | refine qh_ ?_)); refine q6_ (cs := #[.int .i64 0, .int .i64 0]) ?_ 0 _ rfl; (with_reducible repeat (first | refine qd_ ?_ _ | refine qh_ ?_)); exact BK180.out) Try.underlying26 rfl (by kernel_rfl)) rfl ?_
      exact ⟨_, by first | rfl | (simp [*] <;> rfl), by (with_reducible repeat (first | apply Kd.qo_ | apply Kd.qp_)); exact Kd.R_mono (Kd.R_far (p := ⟨gb180, 1, none⟩) (Kd.R_far (p := ⟨gb180, 0, none⟩) (Kd.R_types HO_9.out BK180.out (by decide)) (fun _ hk => hk.2) (.int .i64 t187)) (fun _ hk => hk.2) (.int .i64 t188)) (fun _ hk => trivial), by repeat (first | (with_reducible first | exact HB.out | apply qe_ | apply qa_ | apply qc_ | refine qf_ ?_ GE180.out | refine qf_ ?_ GE189.out) | exact HB.out)⟩
  ·rw [if_neg c5] at H
   exact absurd H (by simp)
 ·rw [if_neg c4] at H
  exact absurd H (by simp)

end Go.Proofs.Ytjpdcnaealdbjaa.PTh
