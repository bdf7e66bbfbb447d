-- printed by drv.py (a program of this repo, over the kit's printer)
import Derived.Test.YtjpdcnaealdbjaaTd
import Derived.Test.YtjpdcnaealdbjaaPThx0
namespace Go.Proofs.Ytjpdcnaealdbjaa.PTh
open Go.RowKit Go.Proofs.YtjpdcnaealdbjaaW.PrintWords Go.Proofs.YtjpdcnaealdbjaaW.PrintLast Go.Proofs.YtjpdcnaealdbjaaW.PrintMore
attribute [local go_sem] max2_int min2_int max_two min_two max_three min_three max_four min_four   -- for this text's walks alone
set_option linter.unusedVariables false
set_option linter.unusedSimpArgs false

/-! ### q3_: function 9 -/
def q3_.l0 : Nat → List Int → List (S34) → Int → Int → Int → Int → Option (List Int × Int × Int)
 | 0, _, _, _, _, _, _ => none
 | k + 1, x9, x19, x20, x21, x175000, x175001 => if x21 < x20 then (if 0 ≤ x21 then (if x21 < (x19.length : Int) then (if ((rd_T34 x19 x21).f4 = true) then (q3_.l0 k x9 x19 x20 (wrap64 (x21 + 1)) x175000 x175001) else (if x9.length < 17592186044416 then (q3_.l0 k (x9 ++ [x21]) x19 x20 (wrap64 (x21 + 1)) x175000 x175001) else (none))) else (none)) else (none)) else (some (x9, x175000, x175001))
def q3_.f (k : Nat) (l0 : List ByteArray) (l1 : List (S43)) : Option (List Int × Int × Int) := (threads_Run.f k l0 l1).bind fun bt166 => (q3_.l0 k ([] : List Int) bt166.1 (bt166.1.length : Int) 0 bt166.2.2.1 bt166.2.2.2)
theorem q3_.mono_l : ∀ k, (∀ y0 y1 y2 y3 y4 y5, LeO (q3_.l0 k y0 y1 y2 y3 y4 y5) (q3_.l0 (k + 1) y0 y1 y2 y3 y4 y5))
 | 0 => fun _ _ _ _ _ _ r h => by simp [q3_.l0] at h
 | k + 1 => by
  have ih0 := q3_.mono_l k
  ·intro y0 y1 y2 y3 y4 y5
   unfold q3_.l0
   repeat' first
   | (with_reducible exact ih0 _ _ _ _ _ _)
   | (with_reducible exact threads_Run.mono _ _ _)
   | (with_reducible exact LeO.refl _)
   | (with_reducible exact LeO.none _)
   | (with_reducible refine LeO.ite ?_ ?_)
   | (with_reducible refine LeO.bind ?_ (fun _ => ?_))
   | exact ih0 _ _ _ _ _ _
   | exact threads_Run.mono _ _ _
   | exact LeO.none _
   | refine LeO.ite ?_ ?_
   | refine LeO.bind ?_ (fun _ => ?_)
theorem q3_.mono : ∀ a0 a1 k, LeO (q3_.f k a0 a1) (q3_.f (k + 1) a0 a1) := by
 intro a0 a1 k
 have ih0 := q3_.mono_l k
 unfold q3_.f
 repeat' first
   | (with_reducible exact ih0 _ _ _ _ _ _)
   | (with_reducible exact threads_Run.mono _ _ _)
   | (with_reducible exact LeO.refl _)
   | (with_reducible exact LeO.none _)
   | (with_reducible refine LeO.ite ?_ ?_)
   | (with_reducible refine LeO.bind ?_ (fun _ => ?_))
   | exact ih0 _ _ _ _ _ _
   | exact threads_Run.mono _ _ _
   | exact LeO.none _
   | refine LeO.ite ?_ ?_
   | refine LeO.bind ?_ (fun _ => ?_)
set_option maxHeartbeats 8000000 in
set_option maxRecDepth 100000 in
theorem q3_.calls (k : Nat) (A0 : Option Addr) (c0 : Nat) (l0 : List ByteArray) (A1 : Option Addr) (c1 : Nat) (l1 : List (S43)) (r1 : List Int) (r2 : Int) (r3 : Int) (w : World) (hr0 : Kd.C Kd.string w A0 l0.length l0) (hc0 : l0.length ≤ c0) (hr1 : Kd.C k43 w A1 l1.length l1) (hc1 : l1.length ≤ c1) (h : q3_.f k l0 l1 = some (r1, r2, r3)) :
  Calls Try.prog 9 #[.slice A0 l0.length c0, .slice A1 l1.length c1] w fun e w' => ∃ v0_ : Value, e = .returned (.tuple #[v0_, .agg #[.int .i64 r2, .int .i64 r3]]) ∧ Kd.R (Kd.int .i64) 3 w' w.heap.size (fun _ => True) v0_ r1 ∧ Below w.heap.size w w' := by
 have hu26 := Try.underlying26
 have hu34 := Try.underlying34
 have HR0 := qi_.mk hr0
 have HC0 := qi_.mk hc0
 clear hr0 hc0
 have HR1 := qi_.mk hr1
 have HC1 := qi_.mk hc1
 clear hr1 hc1
 have HB := qi_.mk (Below.refl w.heap.size w)
 have H : ((threads_Run.f k l0 l1).bind fun bt166 => (q3_.l0 k ([] : List Int) bt166.1 (bt166.1.length : Int) 0 bt166.2.2.1 bt166.2.2.2)) = some (r1, r2, r3) := h
 clear h
 replace H := Option.bind_eq_some_iff.mp H
 obtain ⟨⟨t166, t169, t172, t173⟩, A30, H⟩ := H
 replace H : (q3_.l0 k ([] : List Int) t166 (t166.length : Int) 0 t172 t173) = some (r1, r2, r3) := H
 have A3 := qi_.mk A30
 clear A30
 have H' := qi_.mk H
 clear H
 go_enter Try.func9, Try.ntmps9
 go_wp2_with (first | ((with_reducible refine gate_dst (N := 5) rfl ?_); refine q1_ ?hg (N := 5) ?hd (cs := #[.int .i64 0, .int .i64 0]) (t := 26) ?hr ?_; (case hd => rfl); (case hg => rfl); (case hr => first | (go_simp; done) | (go_simp; rfl)); intro gb165 hg w4 hbox hb; have n0_ := qi_.mk (qr_ (by repeat (first | (with_reducible first | exact HB.out | apply qe_ | apply qa_ | apply qc_) | exact HB.out)) hb); have n1_ := qi_.mk (hbox); have n2_ := qi_.mk ((by rw [hg]; exact (qq_ (by repeat (first | (with_reducible first | exact HB.out | apply qe_ | apply qa_ | apply qc_) | exact HB.out))) : w.heap.size ≤ gb165)); have n3_ := qi_.mk ((by rw [hg]; exact (qq_ (by repeat (first | (with_reducible first | exact HB.out | apply qe_ | apply qa_ | apply qc_) | exact HB.out))) : w.heap.size ≤ gb165)); clear HB; have HB := n0_; have BK165 := n1_; have GW165 := n2_; have GE165 := n3_; clear n0_ n1_ n2_ n3_; clear hb hbox hg) | ((with_reducible refine q2_ (f := 8) rfl ?_); refine goesL_ (some 15) rfl rfl Try.func8 (by kernel_rfl) rfl #[.slice A0 l0.length c0, .slice A1 l1.length c1] rfl (by simp only [List.map_toArray]; first | done | rfl) ?_; (with_reducible refine (threads_Run.calls k _ _ l0 _ _ l1 t166 t169 t172 t173 _ ?side1 ?side2 ?side3 ?side4 A3.out).mono ?_); (case side1 => repeat (first | exact (Kd.C_below HR0.out HB.out))); (case side2 => exact HC0.out); (case side3 => repeat (first | exact (Kd.C_below HR1.out HB.out))); (case side4 => exact HC1.out); rintro e w5 ⟨v167, v170, rfl, ho0, ho1, hb⟩; refine ⟨_, rfl, ?_⟩; have n0_ := qi_.mk (Kd.R_lower ho0 (qq_ (by repeat (first | (with_reducible first | exact HB.out | apply qe_ | apply qa_ | apply qc_ | refine qf_ ?_ GE165.out) | exact HB.out)))); have n1_ := qi_.mk (Kd.R_lower ho1 (qq_ (by repeat (first | (with_reducible first | exact HB.out | apply qe_ | apply qa_ | apply qc_ | refine qf_ ?_ GE165.out) | exact HB.out)))); have n2_ := qi_.mk (qn_ (g := gb165) (o := .cells #[.int .i64 0, .int .i64 0] 26 (0, 0)) (by (with_reducible repeat (first | refine qd_ ?_ _ | refine qh_ ?_)); exact BK165.out) hb); have n3_ := qi_.mk (qr_ (by repeat (first | (with_reducible first | exact HB.out | apply qe_ | apply qa_ | apply qc_ | refine qf_ ?_ GE165.out) | exact HB.out)) hb); clear BK165; clear HB; have HO168 := n0_; have HO171 := n1_; have BK165 := n2_; have HB := n3_; clear n0_ n1_ n2_ n3_; (try clear hb); (try clear ho0); (try clear ho1)) | ((with_reducible refine gate_dst (N := 8) rfl ?_); refine q1_ ?hg (N := 8) ?hd (cs := #[.int .i64 0, .int .i64 0]) (t := 26) ?hr ?_; (case hd => rfl); (case hg => rfl); (case hr => first | (go_simp; done) | (go_simp; rfl)); intro gb174 hg w6 hbox hb; have n0_ := qi_.mk (Kd.R_below (by (with_reducible repeat (first | apply Kd.qo_ | apply Kd.qp_)); exact HO168.out) hb); have n1_ := qi_.mk (Kd.R_below (by (with_reducible repeat (first | apply Kd.qo_ | apply Kd.qp_)); exact HO171.out) hb); have n2_ := qi_.mk (qn_ (g := gb165) (o := .cells #[.int .i64 0, .int .i64 0] 26 (0, 0)) (by (with_reducible repeat (first | refine qd_ ?_ _ | refine qh_ ?_)); exact BK165.out) hb); have n3_ := qi_.mk (qr_ (by repeat (first | (with_reducible first | exact HB.out | apply qe_ | apply qa_ | apply qc_ | refine qf_ ?_ GE165.out) | exact HB.out)) hb); have n4_ := qi_.mk (hbox); have n5_ := qi_.mk ((by rw [hg]; exact (qq_ (by repeat (first | (with_reducible first | exact HB.out | apply qe_ | apply qa_ | apply qc_ | refine qf_ ?_ GE165.out) | exact HB.out))) : w.heap.size ≤ gb174)); have n6_ := qi_.mk ((by rw [hg]; exact (qq_ (by repeat (first | (with_reducible first | exact HB.out | apply qe_ | apply qa_ | apply qc_ | refine qf_ ?_ GE165.out) | exact HB.out))) : w.heap.size ≤ gb174)); have n7_ := qi_.mk ((by rw [hg]; exact Nat.ne_of_lt (blk_lt (g := gb165) (o := .cells #[.int .i64 0, .int .i64 0] 26 (0, 0)) (by (with_reducible repeat (first | refine qd_ ?_ _ | refine qh_ ?_)); exact BK165.out)) : gb165 ≠ gb174)); have n8_ := qi_.mk ((by rw [hg]; exact Nat.ne_of_gt (blk_lt (g := gb165) (o := .cells #[.int .i64 0, .int .i64 0] 26 (0, 0)) (by (with_reducible repeat (first | refine qd_ ?_ _ | refine qh_ ?_)); exact BK165.out)) : gb174 ≠ gb165)); clear HO168; clear HO171; clear BK165; clear HB; have HO168 := n0_; have HO171 := n1_; have BK165 := n2_; have HB := n3_; have BK174 := n4_; have GW174 := n5_; have GE174 := n6_; have NB165_174 := n7_; have NB174_165 := n8_; clear n0_ n1_ n2_ n3_ n4_ n5_ n6_ n7_ n8_; clear hb hbox hg; have hnb7 := NB174_165.out; have hnc7 := NB165_174.out; have hcz8_0 : w6.cell? ⟨gb174, 0, none⟩ = some (.int .i64 0) := (qb_ BK174.out 0).trans rfl; have hcz8_1 : w6.cell? ⟨gb174, 1, none⟩ = some (.int .i64 0) := (qb_ BK174.out 1).trans rfl; have hfz8_0 := qg_ BK174.out 0; have hfz8_1 := qg_ BK174.out 1; obtain ⟨Ao9, co9, eo9⟩ := Kd.R_slice HO168.out; subst eo9))
 go_loopg [9, 21] k (fun kq v9 v21 w' => ∃ (x9_1 : List Int) (x21_1 : Int), v21 = .int .i64 x21_1 ∧ qi_ (q3_.l0 kq x9_1 t166 (t166.length : Int) x21_1 t172 t173 = some (r1, r2, r3)) ∧ qi_ (kq ≤ k) ∧ qi_ (Kd.R (Kd.int .i64) 3 w' w.heap.size (fun _ => True) v9 x9_1) ∧ qi_ (Kd.R k34 34 w' w.heap.size (fun _ => True) (.slice Ao9 t166.length co9) t166) ∧ qi_ (w'.heap[gb165]? = some (.cells #[.int .i64 0, .int .i64 0] 26 (0, 0))) ∧ qi_ (w'.heap[gb174]? = some (.cells #[.int .i64 t172, .int .i64 t173] 26 (0, 0))) ∧ qi_ (Below w.heap.size w w'))
 case atStart => exact ⟨(([] : List Int)), (0), (by first | rfl | (simp; done) | (simp [*]; done)), H', ⟨Nat.le_refl _⟩, ⟨by first | exact Kd.R_nil _ _ _ _ _ | exact Kd.N_nil _ _ _ _ _ | exact Kd.V_nil _ _ _ _ _ | exact Kd.Q_nil _ _ _ _ _ | exact Kd.S_nil _ _ _ _ _⟩, ⟨by (with_reducible repeat (first | apply Kd.qo_ | apply Kd.qp_)); exact Kd.R_mono (Kd.R_far (p := ⟨gb174, 1, none⟩) (Kd.R_far (p := ⟨gb174, 0, none⟩) (Kd.R_types HO168.out BK174.out (by decide)) (fun _ hk => hk.2) (.int .i64 t172)) (fun _ hk => hk.2) (.int .i64 t173)) (fun _ hk => trivial)⟩, ⟨by (with_reducible repeat (first | refine qd_ ?_ _ | refine qh_ ?_)); refine q7_ ?_ NB165_174.out _; (with_reducible repeat (first | refine qd_ ?_ _ | refine qh_ ?_)); refine q7_ ?_ NB165_174.out _; (with_reducible repeat (first | refine qd_ ?_ _ | refine qh_ ?_)); exact BK165.out⟩, ⟨by (with_reducible repeat (first | refine qd_ ?_ _ | refine qh_ ?_)); refine q6_ (cs := #[.int .i64 t172, .int .i64 0]) ?_ 1 _ rfl; (with_reducible repeat (first | refine qd_ ?_ _ | refine qh_ ?_)); refine q6_ (cs := #[.int .i64 0, .int .i64 0]) ?_ 0 _ rfl; (with_reducible repeat (first | refine qd_ ?_ _ | refine qh_ ?_)); exact BK174.out⟩, ⟨by repeat (first | (with_reducible first | exact HB.out | apply qe_ | apply qa_ | apply qc_ | refine qf_ ?_ GE165.out | refine qf_ ?_ GE174.out) | exact HB.out)⟩⟩
 case round =>
  clear H'
  try clear c1
  try clear p2
  try clear c7
  try clear c8
  try clear c9
  try clear hcz8_0
  try clear hcz8_1
  try clear hfz8_0
  try clear hfz8_1
  obtain ⟨x9_1, x21_1, rfl, HA, HK1, HO_9, HO_19, BK165, BK174, HB⟩ := hrel
  cases gk with
  | zero => exact absurd HA.out (by simp [q3_.l0])
  | succ k1 =>
   have H := HA.out
   clear HA
   simp only [q3_.l0] at H
   by_cases c10 : x21_1 < (t166.length : Int)
   ·rw [if_pos c10] at H
    have c10b0 : decide (x21_1 < (t166.length : Int)) = true := decide_eq_true c10
    clear c10
    by_cases c11 : 0 ≤ x21_1
    ·rw [if_pos c11] at H
     have c11b0 : decide (0 ≤ x21_1) = true := decide_eq_true c11
     clear c11
     by_cases c12 : x21_1 < (t166.length : Int)
     ·rw [if_pos c12] at H
      have c12b0 : decide (x21_1 < (t166.length : Int)) = true := decide_eq_true c12
      clear c12
      obtain ⟨bq13, hbq13⟩ : ∃ b_ : Bool, b_ = ((rd_T34 t166 x21_1).f4) := ⟨_, rfl⟩
      replace H : (if (bq13 = true) then (q3_.l0 k1 x9_1 t166 (t166.length : Int) (wrap64 (x21_1 + 1)) t172 t173) else (if x9_1.length < 17592186044416 then (q3_.l0 k1 (x9_1 ++ [x21_1]) t166 (t166.length : Int) (wrap64 (x21_1 + 1)) t172 t173) else (none))) = some (r1, r2, r3) := by rw [← hbq13] at H; exact H
      have Nbq13 := qi_.mk hbq13
      clear hbq13
      by_cases c14 : (bq13 = true)
      ·subst c14
       have H1 : (q3_.l0 k1 x9_1 t166 (t166.length : Int) (wrap64 (x21_1 + 1)) t172 t173) = some (r1, r2, r3) := by rw [if_pos rfl] at H; exact H
       clear H
       have H := H1
       clear H1
       have H' := qi_.mk H
       clear H
       have p175 : 0 ≤ (x21_1 : Int) := of_decide_eq_true (by assumption)
       have q175 : x21_1 < (t166.length : Int) := of_decide_eq_true (by assumption)
       obtain ⟨ad175, e175, hx175_0, hx175_1, hx175_2, hx175_3, hx175_4⟩ := at_T34 (Kd.R_reads' HO_19.out).2.2 x21_1 p175 q175
       (try rw [← Nbq13.out] at hx175_3)
       (try rw [← Nbq13.out] at hx175_4)
       cases e175
       replace p175 := eq_true p175
       replace q175 := eq_true q175
       go_wp2_with (first | ((with_reducible refine gate_dst (N := 11) rfl ?_); refine q1_ ?hg (N := 11) ?hd (cs := #[.int .i64 0, .int .i64 0, .int .i64 0, .bool false, .bool false]) (t := 34) ?hr ?_; (case hd => rfl); (case hg => rfl); (case hr => first | (go_simp; done) | (go_simp; rfl)); intro gb176 hg w15 hbox hb; have n0_ := qi_.mk (Kd.R_below (by (with_reducible repeat (first | apply Kd.qo_ | apply Kd.qp_)); exact HO_9.out) hb); have n1_ := qi_.mk (Kd.R_below (Kd.R_elderB (by (with_reducible repeat (first | apply Kd.qo_ | apply Kd.qp_)); exact HO_19.out) gb176 (Nat.le_of_eq hg.symm)) hb); have n2_ := qi_.mk (qn_ (g := gb165) (o := .cells #[.int .i64 0, .int .i64 0] 26 (0, 0)) (by (with_reducible repeat (first | refine qd_ ?_ _ | refine qh_ ?_)); exact BK165.out) hb); have n3_ := qi_.mk (qn_ (g := gb174) (o := .cells #[.int .i64 t172, .int .i64 t173] 26 (0, 0)) (by (with_reducible repeat (first | refine qd_ ?_ _ | refine qh_ ?_)); exact BK174.out) hb); have n4_ := qi_.mk (qr_ (by repeat (first | (with_reducible first | exact HB.out | apply qe_ | apply qa_ | apply qc_ | refine qf_ ?_ GE165.out | refine qf_ ?_ GE174.out) | exact HB.out)) hb); have n5_ := qi_.mk (hbox); have n6_ := qi_.mk ((by rw [hg]; exact (qq_ (by repeat (first | (with_reducible first | exact HB.out | apply qe_ | apply qa_ | apply qc_ | refine qf_ ?_ GE165.out | refine qf_ ?_ GE174.out) | exact HB.out))) : w.heap.size ≤ gb176)); have n7_ := qi_.mk ((by rw [hg]; exact (qq_ (by repeat (first | (with_reducible first | exact HB.out | apply qe_ | apply qa_ | apply qc_ | refine qf_ ?_ GE165.out | refine qf_ ?_ GE174.out) | exact HB.out))) : w.heap.size ≤ gb176)); have n8_ := qi_.mk ((by rw [hg]; exact Nat.ne_of_lt (blk_lt (g := gb165) (o := .cells #[.int .i64 0, .int .i64 0] 26 (0, 0)) (by (with_reducible repeat (first | refine qd_ ?_ _ | refine qh_ ?_)); exact BK165.out)) : gb165 ≠ gb176)); have n9_ := qi_.mk ((by rw [hg]; exact Nat.ne_of_gt (blk_lt (g := gb165) (o := .cells #[.int .i64 0, .int .i64 0] 26 (0, 0)) (by (with_reducible repeat (first | refine qd_ ?_ _ | refine qh_ ?_)); exact BK165.out)) : gb176 ≠ gb165)); have n10_ := qi_.mk ((by rw [hg]; exact Nat.ne_of_lt (blk_lt (g := gb174) (o := .cells #[.int .i64 t172, .int .i64 t173] 26 (0, 0)) (by (with_reducible repeat (first | refine qd_ ?_ _ | refine qh_ ?_)); exact BK174.out)) : gb174 ≠ gb176)); have n11_ := qi_.mk ((by rw [hg]; exact Nat.ne_of_gt (blk_lt (g := gb174) (o := .cells #[.int .i64 t172, .int .i64 t173] 26 (0, 0)) (by (with_reducible repeat (first | refine qd_ ?_ _ | refine qh_ ?_)); exact BK174.out)) : gb176 ≠ gb174)); clear HO_9; clear HO_19; clear BK165; clear BK174; clear HB; have HO_9 := n0_; have HO_19 := n1_; have BK165 := n2_; have BK174 := n3_; have HB := n4_; have BK176 := n5_; have GW176 := n6_; have GE176 := n7_; have NB165_176 := n8_; have NB176_165 := n9_; have NB174_176 := n10_; have NB176_174 := n11_; clear n0_ n1_ n2_ n3_ n4_ n5_ n6_ n7_ n8_ n9_ n10_ n11_; clear hb hbox hg; have hnb16 := NB176_165.out; have hnc16 := NB165_176.out; have hnb17 := NB176_174.out; have hnc17 := NB174_176.out; have hcz18_0 : w15.cell? ⟨gb176, 0, none⟩ = some (.int .i64 0) := (qb_ BK176.out 0).trans rfl; have hcz18_1 : w15.cell? ⟨gb176, 1, none⟩ = some (.int .i64 0) := (qb_ BK176.out 1).trans rfl; have hcz18_2 : w15.cell? ⟨gb176, 2, none⟩ = some (.int .i64 0) := (qb_ BK176.out 2).trans rfl; have hcz18_3 : w15.cell? ⟨gb176, 3, none⟩ = some (.bool false) := (qb_ BK176.out 3).trans rfl; have hcz18_4 : w15.cell? ⟨gb176, 4, none⟩ = some (.bool false) := (qb_ BK176.out 4).trans rfl; have hfz18_0 := qg_ BK176.out 0; have hfz18_1 := qg_ BK176.out 1; have hfz18_2 := qg_ BK176.out 2; have hfz18_3 := qg_ BK176.out 3; have hfz18_4 := qg_ BK176.out 4))
       go_roundg k1
       case measure => have := HK1.out; omega
       case rel => exact ⟨(x9_1), (wrap64 (x21_1 + 1)), (by first | rfl | (simp; done) | (simp [*]; done)), H', ⟨by have := HK1.out; omega⟩, ⟨by (with_reducible repeat (first | apply Kd.qo_ | apply Kd.qp_)); exact Kd.R_mono (Kd.R_far (p := ⟨gb176, 4, none⟩) (Kd.R_far (p := ⟨gb176, 3, none⟩) (Kd.R_far (p := ⟨gb176, 2, none⟩) (Kd.R_far (p := ⟨gb176, 1, none⟩) (Kd.R_far (p := ⟨gb176, 0, none⟩) (Kd.R_types HO_9.out BK176.out (by decide)) (fun _ hk => hk.2) (.int .i64 ((rd_T34 t166 x21_1).f0))) (fun _ hk => hk.2) (.int .i64 ((rd_T34 t166 x21_1).f1))) (fun _ hk => hk.2) (.int .i64 ((rd_T34 t166 x21_1).f2))) (fun _ hk => hk.2) (.bool ((rd_T34 t166 x21_1).f3))) (fun _ hk => hk.2) (.bool true)) (fun _ hk => trivial)⟩, ⟨by (with_reducible repeat (first | apply Kd.qo_ | apply Kd.qp_)); exact Kd.R_mono (Kd.R_far (p := ⟨gb176, 4, none⟩) (Kd.R_far (p := ⟨gb176, 3, none⟩) (Kd.R_far (p := ⟨gb176, 2, none⟩) (Kd.R_far (p := ⟨gb176, 1, none⟩) (Kd.R_far (p := ⟨gb176, 0, none⟩) (Kd.R_mono HO_19.out (fun k_ hk => (⟨hk, hk.2⟩ : _ ∧ k_ ≠ gb176))) (fun _ hk => hk.2) (.int .i64 ((rd_T34 t166 x21_1).f0))) (fun _ hk => hk.2) (.int .i64 ((rd_T34 t166 x21_1).f1))) (fun _ hk => hk.2) (.int .i64 ((rd_T34 t166 x21_1).f2))) (fun _ hk => hk.2) (.bool ((rd_T34 t166 x21_1).f3))) (fun _ hk => hk.2) (.bool true)) (fun _ hk => trivial)⟩, ⟨by (with_reducible repeat (first | refine qd_ ?_ _ | refine qh_ ?_)); refine q7_ ?_ NB165_176.out _; (with_reducible repeat (first | refine qd_ ?_ _ | refine qh_ ?_)); refine q7_ ?_ NB165_176.out _; (with_reducible repeat (first | refine qd_ ?_ _ | refine qh_ ?_)); refine q7_ ?_ NB165_176.out _; (with_reducible repeat (first | refine qd_ ?_ _ | refine qh_ ?_)); refine q7_ ?_ NB165_176.out _; (with_reducible repeat (first | refine qd_ ?_ _ | refine qh_ ?_)); refine q7_ ?_ NB165_176.out _; (with_reducible repeat (first | refine qd_ ?_ _ | refine qh_ ?_)); exact BK165.out⟩, ⟨by (with_reducible repeat (first | refine qd_ ?_ _ | refine qh_ ?_)); refine q7_ ?_ NB174_176.out _; (with_reducible repeat (first | refine qd_ ?_ _ | refine qh_ ?_)); refine q7_ ?_ NB174_176.out _; (with_reducible repeat (first | refine qd_ ?_ _ | refine qh_ ?_)); refine q7_ ?_ NB174_176.out _; (with_reducible repeat (first | refine qd_ ?_ _ | refine qh_ ?_)); refine q7_ ?_ NB174_176.out _; (with_reducible repeat (first | refine qd_ ?_ _ | refine qh_ ?_)); refine q7_ ?_ NB174_176.out _; (with_reducible repeat (first | refine qd_ ?_ _ | refine qh_ ?_)); exact BK174.out⟩, ⟨by repeat (first | (with_reducible first | exact HB.out | apply qe_ | apply qa_ | apply qc_ | refine qf_ ?_ GE165.out | refine qf_ ?_ GE174.out | refine qf_ ?_ GE176.out) | exact HB.out)⟩⟩
      ·replace c14 := Bool.eq_false_iff.mpr c14
       subst c14
       have H1 : (if x9_1.length < 17592186044416 then (q3_.l0 k1 (x9_1 ++ [x21_1]) t166 (t166.length : Int) (wrap64 (x21_1 + 1)) t172 t173) else (none)) = some (r1, r2, r3) := by rw [if_neg (show ¬ (false = true) by decide)] at H; exact H
       clear H
       have H := H1
       clear H1
       by_cases c19 : x9_1.length < 17592186044416
       ·rw [if_pos c19] at H
        have LMc19 := qi_.mk c19
        clear c19
        obtain ⟨y177, hy177⟩ : ∃ y_ : List Int, y_ = (x9_1 ++ [x21_1]) := ⟨_, rfl⟩
        replace H : (q3_.l0 k1 y177 t166 (t166.length : Int) (wrap64 (x21_1 + 1)) t172 t173) = some (r1, r2, r3) := by first | (rw [hy177]; with_reducible exact H) | (have H2_ := (Option.bind_some _ _).symm.trans H; rw [hy177]; with_reducible exact H2_) | (have H2_ := (Option.bind_some _ _).symm.trans H; with_reducible exact H2_) | with_reducible exact H | (rw [hy177]; exact H) | exact H
        have Ny177 := qi_.mk hy177
        clear hy177
        have H' := qi_.mk H
        clear H
        have p175 : 0 ≤ (x21_1 : Int) := of_decide_eq_true (by assumption)
        have q175 : x21_1 < (t166.length : Int) := of_decide_eq_true (by assumption)
        obtain ⟨ad175, e175, hx175_0, hx175_1, hx175_2, hx175_3, hx175_4⟩ := at_T34 (Kd.R_reads' HO_19.out).2.2 x21_1 p175 q175
        (try rw [← Nbq13.out] at hx175_3)
        (try rw [← Nbq13.out] at hx175_4)
        cases e175
        replace p175 := eq_true p175
        replace q175 := eq_true q175
        go_wp2_with (first | ((with_reducible refine gate_dst (N := 11) rfl ?_); refine q1_ ?hg (N := 11) ?hd (cs := #[.int .i64 0, .int .i64 0, .int .i64 0, .bool false, .bool false]) (t := 34) ?hr ?_; (case hd => rfl); (case hg => rfl); (case hr => first | (go_simp; done) | (go_simp; rfl)); intro gb176 hg w20 hbox hb; have n0_ := qi_.mk (Kd.R_below (by (with_reducible repeat (first | apply Kd.qo_ | apply Kd.qp_)); exact HO_9.out) hb); have n1_ := qi_.mk (Kd.R_below (Kd.R_elderB (by (with_reducible repeat (first | apply Kd.qo_ | apply Kd.qp_)); exact HO_19.out) gb176 (Nat.le_of_eq hg.symm)) hb); have n2_ := qi_.mk (qn_ (g := gb165) (o := .cells #[.int .i64 0, .int .i64 0] 26 (0, 0)) (by (with_reducible repeat (first | refine qd_ ?_ _ | refine qh_ ?_)); exact BK165.out) hb); have n3_ := qi_.mk (qn_ (g := gb174) (o := .cells #[.int .i64 t172, .int .i64 t173] 26 (0, 0)) (by (with_reducible repeat (first | refine qd_ ?_ _ | refine qh_ ?_)); exact BK174.out) hb); have n4_ := qi_.mk (qr_ (by repeat (first | (with_reducible first | exact HB.out | apply qe_ | apply qa_ | apply qc_ | refine qf_ ?_ GE165.out | refine qf_ ?_ GE174.out) | exact HB.out)) hb); have n5_ := qi_.mk (hbox); have n6_ := qi_.mk ((by rw [hg]; exact (qq_ (by repeat (first | (with_reducible first | exact HB.out | apply qe_ | apply qa_ | apply qc_ | refine qf_ ?_ GE165.out | refine qf_ ?_ GE174.out) | exact HB.out))) : w.heap.size ≤ gb176)); have n7_ := qi_.mk ((by rw [hg]; exact (qq_ (by repeat (first | (with_reducible first | exact HB.out | apply qe_ | apply qa_ | apply qc_ | refine qf_ ?_ GE165.out | refine qf_ ?_ GE174.out) | exact HB.out))) : w.heap.size ≤ gb176)); have n8_ := qi_.mk ((by rw [hg]; exact Nat.ne_of_lt (blk_lt (g := gb165) (o := .cells #[.int .i64 0, .int .i64 0] 26 (0, 0)) (by (with_reducible repeat (first | refine qd_ ?_ _ | refine qh_ ?_)); exact BK165.out)) : gb165 ≠ gb176)); have n9_ := qi_.mk ((by rw [hg]; exact Nat.ne_of_gt (blk_lt (g := gb165) (o := .cells #[.int .i64 0, .int .i64 0] 26 (0, 0)) (by (with_reducible repeat (first | refine qd_ ?_ _ | refine qh_ ?_)); exact BK165.out)) : gb176 ≠ gb165)); have n10_ := qi_.mk ((by rw [hg]; exact Nat.ne_of_lt (blk_lt (g := gb174) (o := .cells #[.int .i64 t172, .int .i64 t173] 26 (0, 0)) (by (with_reducible repeat (first | refine qd_ ?_ _ | refine qh_ ?_)); exact BK174.out)) : gb174 ≠ gb176)); have n11_ := qi_.mk ((by rw [hg]; exact Nat.ne_of_gt (blk_lt (g := gb174) (o := .cells #[.int .i64 t172, .int .i64 t173] 26 (0, 0)) (by (with_reducible repeat (first | refine qd_ ?_ _ | refine qh_ ?_)); exact BK174.out)) : gb176 ≠ gb174)); clear HO_9; clear HO_19; clear BK165; clear BK174; clear HB; have HO_9 := n0_; have HO_19 := n1_; have BK165 := n2_; have BK174 := n3_; have HB := n4_; have BK176 := n5_; have GW176 := n6_; have GE176 := n7_; have NB165_176 := n8_; have NB176_165 := n9_; have NB174_176 := n10_; have NB176_174 := n11_; clear n0_ n1_ n2_ n3_ n4_ n5_ n6_ n7_ n8_ n9_ n10_ n11_; clear hb hbox hg; have hnb21 := NB176_165.out; have hnc21 := NB165_176.out; have hnb22 := NB176_174.out; have hnc22 := NB174_176.out; have hcz23_0 : w20.cell? ⟨gb176, 0, none⟩ = some (.int .i64 0) := (qb_ BK176.out 0).trans rfl; have hcz23_1 : w20.cell? ⟨gb176, 1, none⟩ = some (.int .i64 0) := (qb_ BK176.out 1).trans rfl; have hcz23_2 : w20.cell? ⟨gb176, 2, none⟩ = some (.int .i64 0) := (qb_ BK176.out 2).trans rfl; have hcz23_3 : w20.cell? ⟨gb176, 3, none⟩ = some (.bool false) := (qb_ BK176.out 3).trans rfl; have hcz23_4 : w20.cell? ⟨gb176, 4, none⟩ = some (.bool false) := (qb_ BK176.out 4).trans rfl; have hfz23_0 := qg_ BK176.out 0; have hfz23_1 := qg_ BK176.out 1; have hfz23_2 := qg_ BK176.out 2; have hfz23_3 := qg_ BK176.out 3; have hfz23_4 := qg_ BK176.out 4) | ((with_reducible refine gate_builtin (b := .append) (xs := #[.tmp 29, .tmp 31]) rfl ?_); at_builtin; refine Kd.R_append (Kd.int .i64) (w0 := w) w.heap.size rfl (.tmp 29) (.tmp 31) 29 3 (.int .i64 0) 8 rfl Try.underlying29 info3 rfl (by decide) (by omega) u9 x9_1 x21_1 [.int .i64 x21_1] (fun _ => True) (fun _ => False) rfl (by first | (go_simp; done) | (go_simp; rfl)) ?aP (fun _ hk => hk.elim) ?aF ?aO ?aB ?aS ?aL ?_; (case aP => exact rfl); (case aB => exact (by repeat (first | (with_reducible first | exact HB.out | apply qe_ | apply qa_ | apply qc_ | refine qf_ ?_ GE165.out | refine qf_ ?_ GE174.out | refine qf_ ?_ GE176.out) | exact HB.out))); (case aF => exact (fun _ _ => trivial)); (case aO => exact (by (with_reducible repeat (first | apply Kd.qo_ | apply Kd.qp_)); exact Kd.R_mono (Kd.R_far (p := ⟨gb176, 4, none⟩) (Kd.R_far (p := ⟨gb176, 3, none⟩) (Kd.R_far (p := ⟨gb176, 2, none⟩) (Kd.R_far (p := ⟨gb176, 1, none⟩) (Kd.R_far (p := ⟨gb176, 0, none⟩) (Kd.R_types HO_9.out BK176.out (by decide)) (fun _ hk => hk.2) (.int .i64 ((rd_T34 t166 x21_1).f0))) (fun _ hk => hk.2) (.int .i64 ((rd_T34 t166 x21_1).f1))) (fun _ hk => hk.2) (.int .i64 ((rd_T34 t166 x21_1).f2))) (fun _ hk => hk.2) (.bool ((rd_T34 t166 x21_1).f3))) (fun _ hk => hk.2) (.bool false)) (fun _ hk => trivial))); (case aS => exact (qq_ (by repeat (first | (with_reducible first | exact HB.out | apply qe_ | apply qa_ | apply qc_ | refine qf_ ?_ GE165.out | refine qf_ ?_ GE174.out | refine qf_ ?_ GE176.out) | exact HB.out)))); (case aL => have := LMc19.out; omega); intro v178 w24 ho hb hg hat; rw [← Ny177.out] at ho; have n0_ := qi_.mk (Kd.R_over' (by (with_reducible repeat (first | apply Kd.qo_ | apply Kd.qp_)); exact (Kd.R_mono (Kd.R_far (p := ⟨gb176, 4, none⟩) (Kd.R_far (p := ⟨gb176, 3, none⟩) (Kd.R_far (p := ⟨gb176, 2, none⟩) (Kd.R_far (p := ⟨gb176, 1, none⟩) (Kd.R_far (p := ⟨gb176, 0, none⟩) (Kd.R_mono HO_19.out (fun k_ hk => (⟨hk, hk.2⟩ : _ ∧ k_ ≠ gb176))) (fun _ hk => hk.2) (.int .i64 ((rd_T34 t166 x21_1).f0))) (fun _ hk => hk.2) (.int .i64 ((rd_T34 t166 x21_1).f1))) (fun _ hk => hk.2) (.int .i64 ((rd_T34 t166 x21_1).f2))) (fun _ hk => hk.2) (.bool ((rd_T34 t166 x21_1).f3))) (fun _ hk => hk.2) (.bool false)) (fun _ h_ => h_.1))) (Kd.R_typed (by (with_reducible repeat (first | apply Kd.qo_ | apply Kd.qp_)); exact (Kd.R_mono (Kd.R_far (p := ⟨gb176, 4, none⟩) (Kd.R_far (p := ⟨gb176, 3, none⟩) (Kd.R_far (p := ⟨gb176, 2, none⟩) (Kd.R_far (p := ⟨gb176, 1, none⟩) (Kd.R_far (p := ⟨gb176, 0, none⟩) (Kd.R_types HO_9.out BK176.out (by decide)) (fun _ hk => hk.2) (.int .i64 ((rd_T34 t166 x21_1).f0))) (fun _ hk => hk.2) (.int .i64 ((rd_T34 t166 x21_1).f1))) (fun _ hk => hk.2) (.int .i64 ((rd_T34 t166 x21_1).f2))) (fun _ hk => hk.2) (.bool ((rd_T34 t166 x21_1).f3))) (fun _ hk => hk.2) (.bool false)) (fun _ h_ => h_.1)))) (by decide) hg); have n1_ := qi_.mk (blk_grown (g := gb165) (o := .cells #[.int .i64 0, .int .i64 0] 26 (0, 0)) (by (with_reducible repeat (first | refine qd_ ?_ _ | refine qh_ ?_)); refine q7_ ?_ NB165_176.out _; (with_reducible repeat (first | refine qd_ ?_ _ | refine qh_ ?_)); refine q7_ ?_ NB165_176.out _; (with_reducible repeat (first | refine qd_ ?_ _ | refine qh_ ?_)); refine q7_ ?_ NB165_176.out _; (with_reducible repeat (first | refine qd_ ?_ _ | refine qh_ ?_)); refine q7_ ?_ NB165_176.out _; (with_reducible repeat (first | refine qd_ ?_ _ | refine qh_ ?_)); refine q7_ ?_ NB165_176.out _; (with_reducible repeat (first | refine qd_ ?_ _ | refine qh_ ?_)); exact BK165.out) hg (Kd.R_ne HO_9.out BK165.out (by decide))); have n2_ := qi_.mk (blk_grown (g := gb174) (o := .cells #[.int .i64 t172, .int .i64 t173] 26 (0, 0)) (by (with_reducible repeat (first | refine qd_ ?_ _ | refine qh_ ?_)); refine q7_ ?_ NB174_176.out _; (with_reducible repeat (first | refine qd_ ?_ _ | refine qh_ ?_)); refine q7_ ?_ NB174_176.out _; (with_reducible repeat (first | refine qd_ ?_ _ | refine qh_ ?_)); refine q7_ ?_ NB174_176.out _; (with_reducible repeat (first | refine qd_ ?_ _ | refine qh_ ?_)); refine q7_ ?_ NB174_176.out _; (with_reducible repeat (first | refine qd_ ?_ _ | refine qh_ ?_)); refine q7_ ?_ NB174_176.out _; (with_reducible repeat (first | refine qd_ ?_ _ | refine qh_ ?_)); exact BK174.out) hg (Kd.R_ne HO_9.out BK174.out (by decide))); have n3_ := qi_.mk (blk_grown (g := gb176) (o := .cells #[.int .i64 ((rd_T34 t166 x21_1).f0), .int .i64 ((rd_T34 t166 x21_1).f1), .int .i64 ((rd_T34 t166 x21_1).f2), .bool ((rd_T34 t166 x21_1).f3), .bool false] 34 (0, 0)) (by (with_reducible repeat (first | refine qd_ ?_ _ | refine qh_ ?_)); refine q6_ (cs := #[.int .i64 ((rd_T34 t166 x21_1).f0), .int .i64 ((rd_T34 t166 x21_1).f1), .int .i64 ((rd_T34 t166 x21_1).f2), .bool ((rd_T34 t166 x21_1).f3), .bool false]) ?_ 4 _ rfl; (with_reducible repeat (first | refine qd_ ?_ _ | refine qh_ ?_)); refine q6_ (cs := #[.int .i64 ((rd_T34 t166 x21_1).f0), .int .i64 ((rd_T34 t166 x21_1).f1), .int .i64 ((rd_T34 t166 x21_1).f2), .bool false, .bool false]) ?_ 3 _ rfl; (with_reducible repeat (first | refine qd_ ?_ _ | refine qh_ ?_)); refine q6_ (cs := #[.int .i64 ((rd_T34 t166 x21_1).f0), .int .i64 ((rd_T34 t166 x21_1).f1), .int .i64 0, .bool false, .bool false]) ?_ 2 _ rfl; (with_reducible repeat (first | refine qd_ ?_ _ | refine qh_ ?_)); refine q6_ (cs := #[.int .i64 ((rd_T34 t166 x21_1).f0), .int .i64 0, .int .i64 0, .bool false, .bool false]) ?_ 1 _ rfl; (with_reducible repeat (first | refine qd_ ?_ _ | refine qh_ ?_)); refine q6_ (cs := #[.int .i64 0, .int .i64 0, .int .i64 0, .bool false, .bool false]) ?_ 0 _ rfl; (with_reducible repeat (first | refine qd_ ?_ _ | refine qh_ ?_)); exact BK176.out) hg (Kd.R_ne HO_9.out BK176.out (by decide))); have n4_ := qi_.mk (hb); have n5_ := qi_.mk (ho); clear HO_19; clear BK165; clear BK174; clear BK176; clear HB; clear HO_9; have HO_19 := n0_; have BK165 := n1_; have BK174 := n2_; have BK176 := n3_; have HB := n4_; have HO179 := n5_; clear n0_ n1_ n2_ n3_ n4_ n5_; clear ho hb hg hat))
        go_roundg k1
        case measure => have := HK1.out; omega
        case rel => exact ⟨(y177), (wrap64 (x21_1 + 1)), (by first | rfl | (simp; done) | (simp [*]; done)), H', ⟨by have := HK1.out; omega⟩, ⟨by (with_reducible repeat (first | apply Kd.qo_ | apply Kd.qp_)); exact HO179.out⟩, ⟨by (with_reducible repeat (first | apply Kd.qo_ | apply Kd.qp_)); exact Kd.R_mono HO_19.out (fun _ hk => trivial)⟩, ⟨by (with_reducible repeat (first | refine qd_ ?_ _ | refine qh_ ?_)); exact BK165.out⟩, ⟨by (with_reducible repeat (first | refine qd_ ?_ _ | refine qh_ ?_)); exact BK174.out⟩, ⟨by repeat (first | (with_reducible first | exact HB.out | apply qe_ | apply qa_ | apply qc_ | refine qf_ ?_ GE165.out | refine qf_ ?_ GE174.out | refine qf_ ?_ GE176.out) | exact HB.out)⟩⟩
       ·rw [if_neg c19] at H
        exact absurd H (by simp)
     ·rw [if_neg c12] at H
      exact absurd H (by simp)
    ·rw [if_neg c11] at H
     exact absurd H (by simp)
   ·rw [if_neg c10] at H
    have c10b0 : decide (x21_1 < (t166.length : Int)) = false := decide_eq_false c10
    clear c10
    simp only [Option.some.injEq, Prod.mk.injEq] at H
    obtain ⟨rfl, rfl, rfl⟩ := H
    try go_wp2
    have n0_ := qi_.mk (Kd.qp_ HO_9.out)
    have n1_ := qi_.mk (Kd.qp_ HO_19.out)
    have n2_ := qi_.mk (qh_ BK165.out)
    have n3_ := qi_.mk (qh_ BK174.out)
    have n4_ := qi_.mk (qc_ HB.out)
    clear HO_9
    clear HO_19
    clear BK165
    clear BK174
    clear HB
    have HO_9 := n0_
    have HO_19 := n1_
    have BK165 := n2_
    have BK174 := n3_
    have HB := n4_
    clear n0_ n1_ n2_ n3_ n4_
    refine start_ (n := 4) (S := fun w' => w'.cell? ⟨gb174, 0, none⟩ = some (.int .i64 t172) ∧ w'.cell? ⟨gb174, 1, none⟩ = some (.int .i64 t173)) (ds := []) #[false, false, false, false] (by kernel_rfl) rfl rfl ⟨(qb_ BK174.out 0).trans rfl, (qb_ BK174.out 1).trans rfl⟩ (fun hHeld => ?_)
    generalize wr.drew = w25 at HO_9 HO_19 BK165 BK174 HB hHeld ⊢
    refine pure_ (i := 0) (N := some 34) (v := ?_) (a' := ?_) #[true, false, false, false] rfl rfl (by kernel_rfl) (fun _ _ _ h => h) (Or.inl ⟨by rfl, ?_⟩) ?_ ?_
    rotate_left
    ·intro w'
     go_simp
     with_reducible rfl
    rotate_left
    ·simp only [Act.put, List.setIfInBounds_toArray, List.set_cons_zero, List.set_cons_succ, i64_w, i32_w]
     rfl
    refine pure_ (i := 2) (N := some 4) (v := ?_) (a' := ?_) #[true, false, true, false] rfl rfl (by kernel_rfl) (fun _ _ _ h => h) (Or.inl ⟨by rfl, ?_⟩) ?_ ?_
    rotate_left
    ·intro w'
     go_simp
     with_reducible rfl
    rotate_left
    ·simp only [Act.put, List.setIfInBounds_toArray, List.set_cons_zero, List.set_cons_succ, i64_w, i32_w]
     rfl
    refine take_ (i := 1) (N := some 35) (v := ?_) (a' := ?_) #[true, true, true, false] rfl rfl (by kernel_rfl) (fun _ _ _ h => h) (Or.inl ⟨by rfl, ?_⟩) hHeld ?_ ?_
    rotate_left
    ·rintro w' ⟨s0, s1⟩
     go_simp
     with_reducible rfl
    rotate_left
    ·simp only [Act.put, List.setIfInBounds_toArray, List.set_cons_zero, List.set_cons_succ, i64_w, i32_w]
     rfl
    refine one_ (i := 3) (N := none) #[true, true, true, true] rfl rfl (by kernel_rfl) (by decide) (fun K hK => ?_)
    have hs26 : w25.cell? ⟨gb165, 0, none⟩ = some (.int .i64 0) := (qb_ BK165.out 0).trans rfl
    have hfs26 := qg_ BK165.out 0
    have hns26_1 := NB174_165.out
    have hms26_1 := NB165_174.out
    have hs27 : w25.cell? ⟨gb165, 1, none⟩ = some (.int .i64 0) := (qb_ BK165.out 1).trans rfl
    have hfs27 := qg_ BK165.out 1
    have hns27_1 := NB174_165.out
    have hms27_1 := NB165_174.out
    refine skip_ (w1 := ?_) (by rfl) rfl ?_ ?_
    rotate_left
    ·go_simp
     rfl
    refine hK.out _ _ ⟨((cell_far (p := ⟨gb165, _, none⟩) NB174_165.out _).trans (((cell_far (p := ⟨gb165, _, none⟩) NB174_165.out _).trans (hHeld.1)))), ((cell_far (p := ⟨gb165, _, none⟩) NB174_165.out _).trans (((cell_far (p := ⟨gb165, _, none⟩) NB174_165.out _).trans (hHeld.2))))⟩ (fun hHeld => ?_)
    clear hK K
    refine done_ (by kernel_rfl) ?_
    try go_wp2
    refine bodyPost_ret (results_tc rfl _ _ gb165 26 #[.int .i64 t172, .int .i64 t173] (0, 0) _ rfl (by (with_reducible repeat (first | refine qd_ ?_ _ | refine qh_ ?_)); refine q6_ (cs := #[.int .i64 t172, .int .i64 0]) ?_ 1 _ rfl; (with_reducible repeat (first | refine qd_ ?_ _ | refine qh_ ?_)); refine q6_ (cs := #[.int .i64 0, .int .i64 0]) ?_ 0 _ rfl; (with_reducible repeat (first | refine qd_ ?_ _ | refine qh_ ?_)); exact BK165.out) Try.underlying26 rfl (by kernel_rfl)) rfl ?_
    exact ⟨_, by first | rfl | (simp [*] <;> rfl), by (with_reducible repeat (first | apply Kd.qo_ | apply Kd.qp_)); exact Kd.R_mono (Kd.R_far (p := ⟨gb165, 1, none⟩) (Kd.R_far (p := ⟨gb165, 0, none⟩) (Kd.R_types HO_9.out BK165.out (by decide)) (fun _ hk => hk.2) (.int .i64 t172)) (fun _ hk => hk.2) (.int .i64 t173)) (fun _ hk => trivial), by repeat (first | (with_reducible first | exact HB.out | apply qe_ | apply qa_ | apply qc_ | refine qf_ ?_ GE165.out | refine qf_ ?_ GE174.out) | exact HB.out)⟩

end Go.Proofs.Ytjpdcnaealdbjaa.PTh
