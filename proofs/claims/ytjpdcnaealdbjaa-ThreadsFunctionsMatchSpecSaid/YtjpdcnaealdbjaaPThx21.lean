-- printed by drv.py (a program of this repo, over the kit's printer)
import Derived.Test.YtjpdcnaealdbjaaPThx0
import Derived.Test.YtjpdcnaealdbjaaPThx1
import Derived.Test.YtjpdcnaealdbjaaPThx12
import Derived.Test.YtjpdcnaealdbjaaPThx17
import Derived.Test.YtjpdcnaealdbjaaPThx19
import Derived.Test.YtjpdcnaealdbjaaPThx20
namespace Go.Proofs.Ytjpdcnaealdbjaa.PTh
open Go.RowKit Go.Proofs.YtjpdcnaealdbjaaW.PrintWords Go.Proofs.YtjpdcnaealdbjaaW.PrintLast Go.Proofs.YtjpdcnaealdbjaaW.PrintMore
attribute [local go_sem] max2_int min2_int max_two min_two max_three min_three max_four min_four   -- for this text's walks alone
set_option linter.unusedVariables false
set_option linter.unusedSimpArgs false

attribute [local go_sem high] eqA26
/-! ### qy_: function 22 -/
def qy_.l0 : Nat → List ByteArray → List ByteArray → Int → List (S52) → Int → Int → Option (List ByteArray × Int × Int)
 | 0, _, _, _, _, _, _ => none
 | k + 1, x1, x8, x9, x25, x26, x27 => if x27 < x26 then (if 0 ≤ x27 then (if x27 < (x25.length : Int) then ((textpatch_End.f ((rd_T52 x25 x27).f0) ((rd_T52 x25 x27).f1) ((rd_T52 x25 x27).f2)).bind fun t140 => (if t140 > (x1.length : Int) then (some (([] : List ByteArray), 19, x27)) else ((textpatch_End.f ((rd_T52 x25 x27).f0) ((rd_T52 x25 x27).f1) ((rd_T52 x25 x27).f2)).bind fun t141 => (if 0 ≤ ((rd_T52 x25 x27).f0) then (if ((rd_T52 x25 x27).f0) ≤ t141 then (if t141 ≤ (x1.length : Int) then ((q0_.f k ((x1.take (t141 : Int).toNat).drop (((rd_T52 x25 x27).f0) : Int).toNat) ((rd_T52 x25 x27).f1)).bind fun t143 => (if t143 = true then (if 0 ≤ x9 then (if x9 ≤ ((rd_T52 x25 x27).f0) then (if ((rd_T52 x25 x27).f0) ≤ (x1.length : Int) then (if x8.length + ((x1.take (((rd_T52 x25 x27).f0) : Int).toNat).drop (x9 : Int).toNat).length < 8796093022208 then ((some (x8 ++ ((x1.take (((rd_T52 x25 x27).f0) : Int).toNat).drop (x9 : Int).toNat) : List ByteArray)).bind fun y145 => (if y145.length + ((rd_T52 x25 x27).f2).length < 8796093022208 then ((textpatch_End.f ((rd_T52 x25 x27).f0) ((rd_T52 x25 x27).f1) ((rd_T52 x25 x27).f2)).bind fun t151 => (qy_.l0 k x1 (y145 ++ ((rd_T52 x25 x27).f2)) t151 x25 x26 (wrap64 (x27 + 1)))) else (none))) else (none)) else (none)) else (none)) else (none)) else (some (([] : List ByteArray), 19, x27)))) else (none)) else (none)) else (none))))) else (none)) else (none)) else (if 0 ≤ x9 then (if x9 ≤ (x1.length : Int) then (if x8.length + (x1.drop (x9 : Int).toNat).length < 8796093022208 then ((some (x8 ++ (x1.drop (x9 : Int).toNat) : List ByteArray)).bind fun y135 => (if (y135.length : Int) > 120 then (some (([] : List ByteArray), 10, (-1))) else (some (y135, 0, 0)))) else (none)) else (none)) else (none))
def qy_.f (k : Nat) (l0_0 : List (S52)) (l1 : List ByteArray) : Option (List ByteArray × Int × Int) := (qw_.f k l0_0).bind fun bt130 => (if (bt130.1 == 0 && (bt130.2 == 0)) = true then ((lines_Code.f k l1).bind fun t133 => (if t133 = 0 then (qy_.l0 k l1 ([] : List ByteArray) 0 l0_0 (l0_0.length : Int) 0) else (some (([] : List ByteArray), t133, (-2))))) else (some (([] : List ByteArray), bt130.1, bt130.2)))
theorem qy_.mono_l : ∀ k, (∀ y0 y1 y2 y3 y4 y5, LeO (qy_.l0 k y0 y1 y2 y3 y4 y5) (qy_.l0 (k + 1) y0 y1 y2 y3 y4 y5))
 | 0 => fun _ _ _ _ _ _ r h => by simp [qy_.l0] at h
 | k + 1 => by
  have ih0 := qy_.mono_l k
  ·intro y0 y1 y2 y3 y4 y5
   unfold qy_.l0
   repeat' first
   | (with_reducible exact ih0 _ _ _ _ _ _)
   | (with_reducible exact lines_Code.mono _ _)
   | (with_reducible exact q0_.mono _ _ _)
   | (with_reducible exact qw_.mono _ _)
   | (with_reducible exact LeO.refl _)
   | (with_reducible exact LeO.none _)
   | (with_reducible refine LeO.ite ?_ ?_)
   | (with_reducible refine LeO.bind ?_ (fun _ => ?_))
   | exact ih0 _ _ _ _ _ _
   | exact lines_Code.mono _ _
   | exact q0_.mono _ _ _
   | exact qw_.mono _ _
   | exact LeO.none _
   | refine LeO.ite ?_ ?_
   | refine LeO.bind ?_ (fun _ => ?_)
theorem qy_.mono : ∀ a0 a1 k, LeO (qy_.f k a0 a1) (qy_.f (k + 1) a0 a1) := by
 intro a0 a1 k
 have ih0 := qy_.mono_l k
 unfold qy_.f
 repeat' first
   | (with_reducible exact ih0 _ _ _ _ _ _)
   | (with_reducible exact lines_Code.mono _ _)
   | (with_reducible exact q0_.mono _ _ _)
   | (with_reducible exact qw_.mono _ _)
   | (with_reducible exact LeO.refl _)
   | (with_reducible exact LeO.none _)
   | (with_reducible refine LeO.ite ?_ ?_)
   | (with_reducible refine LeO.bind ?_ (fun _ => ?_))
   | exact ih0 _ _ _ _ _ _
   | exact lines_Code.mono _ _
   | exact q0_.mono _ _ _
   | exact qw_.mono _ _
   | exact LeO.none _
   | refine LeO.ite ?_ ?_
   | refine LeO.bind ?_ (fun _ => ?_)
def qy_.T12 : Bool × List (List Nat × List Nat) := (true, [([], []), ([0], [0]), ([], []), ([2], [2]), ([1, 3], [1, 3]), ([4, 1], [4]), ([5], [5]), ([5], [5]), ([7, 5], [5, 7]), ([5], [5]), ([9, 5, 5], [5, 9]), ([6, 8, 10, 5], [5, 6, 8, 10]), ([5], [5]), ([12, 5], [5, 12]), ([11, 13, 10, 5], [5, 11, 13]), ([14, 5], [5, 14]), ([5, 15], [5, 15])])
def qy_.B12 : List Nat := [0, 1, 0, 4, 15, 31, 63, 63, 191, 63, 575, 2047, 63, 4159, 16383, 32767, 65535]
theorem qy_.tab12 : rtab .any (opsOf Try.f22 12) = qy_.T12 := by kernel_rfl
theorem qy_.bits12 : waitsOk qy_.T12.2 qy_.B12 = true := by kernel_rfl
def qy_.T14 : Bool × List (List Nat × List Nat) := (true, [([], []), ([], []), ([], []), ([], []), ([3], [3]), ([1, 2, 4], [1, 2, 4]), ([0, 5], [0, 5]), ([], []), ([7], [7]), ([6, 8, 6], [6, 8]), ([9, 9, 0, 1, 2, 3, 4, 5, 6, 7, 8, 9], [0, 9])])
def qy_.B14 : List Nat := [0, 0, 0, 0, 8, 30, 63, 0, 128, 511, 1023]
theorem qy_.tab14 : rtab .any (opsOf Try.f22 14) = qy_.T14 := by kernel_rfl
theorem qy_.bits14 : waitsOk qy_.T14.2 qy_.B14 = true := by kernel_rfl
set_option maxHeartbeats 8000000 in
set_option maxRecDepth 100000 in
theorem qy_.calls (k : Nat) (A0_0 : Option Addr) (c0_0 : Nat) (l0_0 : List (S52)) (A1 : Option Addr) (c1 : Nat) (l1 : List ByteArray) (r1 : List ByteArray) (r2 : Int) (r3 : Int) (w : World) (hr0_0 : Kd.C k52 w A0_0 l0_0.length l0_0) (hc0_0 : l0_0.length ≤ c0_0) (hr1 : Kd.C Kd.string w A1 l1.length l1) (hc1 : l1.length ≤ c1) (h : qy_.f k l0_0 l1 = some (r1, r2, r3)) :
  Calls Try.prog 22 #[.agg #[.slice A0_0 l0_0.length c0_0], .slice A1 l1.length c1] w fun e w' => ∃ v0_ : Value, e = .returned (.tuple #[v0_, .agg #[.int .i64 r2, .int .i64 r3]]) ∧ Kd.R Kd.string 9 w' w.heap.size (fun _ => True) v0_ r1 ∧ Below w.heap.size w w' := by
 have hu41 := Try.underlying41
 have hu26 := Try.underlying26
 have hu52 := Try.underlying52
 have HR0_0 := qi_.mk hr0_0
 have HC0_0 := qi_.mk hc0_0
 clear hr0_0 hc0_0
 have HR1 := qi_.mk hr1
 have HC1 := qi_.mk hc1
 clear hr1 hc1
 have HB := qi_.mk (Below.refl w.heap.size w)
 have H : ((qw_.f k l0_0).bind fun bt130 => (if (bt130.1 == 0 && (bt130.2 == 0)) = true then ((lines_Code.f k l1).bind fun t133 => (if t133 = 0 then (qy_.l0 k l1 ([] : List ByteArray) 0 l0_0 (l0_0.length : Int) 0) else (some (([] : List ByteArray), t133, (-2))))) else (some (([] : List ByteArray), bt130.1, bt130.2)))) = some (r1, r2, r3) := h
 clear h
 replace H := Option.bind_eq_some_iff.mp H
 obtain ⟨⟨t130, t131⟩, A30, H⟩ := H
 replace H : (if (t130 == 0 && (t131 == 0)) = true then ((lines_Code.f k l1).bind fun t133 => (if t133 = 0 then (qy_.l0 k l1 ([] : List ByteArray) 0 l0_0 (l0_0.length : Int) 0) else (some (([] : List ByteArray), t133, (-2))))) else (some (([] : List ByteArray), t130, t131))) = some (r1, r2, r3) := H
 have A3 := qi_.mk A30
 clear A30
 by_cases c4 : (t130 == 0 && (t131 == 0)) = true
 ·rw [if_pos c4] at H
  have c4b0 : (t130 == 0 && (t131 == 0)) = true := c4
  have c4b1 : (!(t130 == 0) || (!(t131 == 0))) = false := by have h_ := congrArg not c4; simpa [Bool.not_and] using h_
  clear c4
  replace H := Option.bind_eq_some_iff.mp H
  obtain ⟨t133, A50, H⟩ := H
  replace H : (if t133 = 0 then (qy_.l0 k l1 ([] : List ByteArray) 0 l0_0 (l0_0.length : Int) 0) else (some (([] : List ByteArray), t133, (-2)))) = some (r1, r2, r3) := H
  have A5 := qi_.mk A50
  clear A50
  by_cases c6 : t133 = 0
  ·rw [if_pos c6] at H
   have c6b0 : (t133 == 0) = true := beq_iff_eq.mpr c6
   have c6b1 : (t133 != 0) = false := bne_eq_false_iff_eq.mpr c6
   clear c6
   have H' := qi_.mk H
   clear H
   go_enter Try.func22, Try.ntmps22
   go_wp2_with (first | ((with_reducible refine gate_dst (N := 2) rfl ?_); refine q1_ ?hg (N := 2) ?hd (cs := #[.slice A0_0 l0_0.length c0_0]) (t := 41) ?hr ?_; (case hd => rfl); (case hg => rfl); (case hr => first | (go_simp; done) | (go_simp; rfl)); intro gb128 hg w7 hbox hb; have n0_ := qi_.mk (qr_ (by repeat (first | (with_reducible first | exact HB.out | apply qe_ | apply qa_ | apply qc_) | exact HB.out)) hb); have n1_ := qi_.mk (hbox); have n2_ := qi_.mk ((by rw [hg]; exact (qq_ (by repeat (first | (with_reducible first | exact HB.out | apply qe_ | apply qa_ | apply qc_) | exact HB.out))) : w.heap.size ≤ gb128)); have n3_ := qi_.mk ((by rw [hg]; exact (qq_ (by repeat (first | (with_reducible first | exact HB.out | apply qe_ | apply qa_ | apply qc_) | exact HB.out))) : w.heap.size ≤ gb128)); clear HB; have HB := n0_; have BK128 := n1_; have GW128 := n2_; have GE128 := n3_; clear n0_ n1_ n2_ n3_; clear hb hbox hg) | ((with_reducible refine gate_dst (N := 5) rfl ?_); refine q1_ ?hg (N := 5) ?hd (cs := #[.int .i64 0, .int .i64 0]) (t := 26) ?hr ?_; (case hd => rfl); (case hg => rfl); (case hr => first | (go_simp; done) | (go_simp; rfl)); intro gb129 hg w8 hbox hb; have n0_ := qi_.mk (qn_ (g := gb128) (o := .cells #[.slice A0_0 l0_0.length c0_0] 41 (0, 0)) (by (with_reducible repeat (first | refine qd_ ?_ _ | refine qh_ ?_)); exact BK128.out) hb); have n1_ := qi_.mk (qr_ (by repeat (first | (with_reducible first | exact HB.out | apply qe_ | apply qa_ | apply qc_ | refine qf_ ?_ GE128.out) | exact HB.out)) hb); have n2_ := qi_.mk (hbox); have n3_ := qi_.mk ((by rw [hg]; exact (qq_ (by repeat (first | (with_reducible first | exact HB.out | apply qe_ | apply qa_ | apply qc_ | refine qf_ ?_ GE128.out) | exact HB.out))) : w.heap.size ≤ gb129)); have n4_ := qi_.mk ((by rw [hg]; exact (qq_ (by repeat (first | (with_reducible first | exact HB.out | apply qe_ | apply qa_ | apply qc_ | refine qf_ ?_ GE128.out) | exact HB.out))) : w.heap.size ≤ gb129)); have n5_ := qi_.mk ((by rw [hg]; exact Nat.ne_of_lt (blk_lt (g := gb128) (o := .cells #[.slice A0_0 l0_0.length c0_0] 41 (0, 0)) (by (with_reducible repeat (first | refine qd_ ?_ _ | refine qh_ ?_)); exact BK128.out)) : gb128 ≠ gb129)); have n6_ := qi_.mk ((by rw [hg]; exact Nat.ne_of_gt (blk_lt (g := gb128) (o := .cells #[.slice A0_0 l0_0.length c0_0] 41 (0, 0)) (by (with_reducible repeat (first | refine qd_ ?_ _ | refine qh_ ?_)); exact BK128.out)) : gb129 ≠ gb128)); clear BK128; clear HB; have BK128 := n0_; have HB := n1_; have BK129 := n2_; have GW129 := n3_; have GE129 := n4_; have NB128_129 := n5_; have NB129_128 := n6_; clear n0_ n1_ n2_ n3_ n4_ n5_ n6_; clear hb hbox hg; have hnb9 := NB128_129.out; have hnc9 := NB129_128.out; have hcz10_0 : w8.cell? ⟨gb128, 0, none⟩ = some (.slice A0_0 l0_0.length c0_0) := (qb_ BK128.out 0).trans rfl; have hfz10_0 := qg_ BK128.out 0) | ((with_reducible refine q2_ (f := 31) rfl ?_); refine goesL_ (some 13) rfl rfl Try.func31 (by kernel_rfl) rfl #[.agg #[.slice A0_0 l0_0.length c0_0]] rfl (by simp only [List.map_toArray]; first | done | rfl | (simp only [List.length_drop, List.length_take]; rfl)) ?_; (with_reducible refine (qw_.calls k _ _ l0_0 t130 t131 _ ?side1 ?side2 A3.out).mono ?_); (case side1 => repeat (first | exact (Kd.C_below HR0_0.out HB.out))); (case side2 => exact HC0_0.out); rintro e w11 ⟨rfl, hb⟩; refine ⟨_, rfl, ?_⟩; have n0_ := qi_.mk (qn_ (g := gb128) (o := .cells #[.slice A0_0 l0_0.length c0_0] 41 (0, 0)) (by (with_reducible repeat (first | refine qd_ ?_ _ | refine qh_ ?_)); exact BK128.out) hb); have n1_ := qi_.mk (qn_ (g := gb129) (o := .cells #[.int .i64 0, .int .i64 0] 26 (0, 0)) (by (with_reducible repeat (first | refine qd_ ?_ _ | refine qh_ ?_)); exact BK129.out) hb); have n2_ := qi_.mk (qr_ (by repeat (first | (with_reducible first | exact HB.out | apply qe_ | apply qa_ | apply qc_ | refine qf_ ?_ GE128.out | refine qf_ ?_ GE129.out) | exact HB.out)) hb); clear BK128; clear BK129; clear HB; have BK128 := n0_; have BK129 := n1_; have HB := n2_; clear n0_ n1_ n2_; (try clear hb)) | ((with_reducible refine gate_dst (N := 6) rfl ?_); refine q1_ ?hg (N := 6) ?hd (cs := #[.int .i64 0, .int .i64 0]) (t := 26) ?hr ?_; (case hd => rfl); (case hg => rfl); (case hr => first | (go_simp; done) | (go_simp; rfl)); intro gb132 hg w12 hbox hb; have n0_ := qi_.mk (qn_ (g := gb128) (o := .cells #[.slice A0_0 l0_0.length c0_0] 41 (0, 0)) (by (with_reducible repeat (first | refine qd_ ?_ _ | refine qh_ ?_)); exact BK128.out) hb); have n1_ := qi_.mk (qn_ (g := gb129) (o := .cells #[.int .i64 0, .int .i64 0] 26 (0, 0)) (by (with_reducible repeat (first | refine qd_ ?_ _ | refine qh_ ?_)); exact BK129.out) hb); have n2_ := qi_.mk (qr_ (by repeat (first | (with_reducible first | exact HB.out | apply qe_ | apply qa_ | apply qc_ | refine qf_ ?_ GE128.out | refine qf_ ?_ GE129.out) | exact HB.out)) hb); have n3_ := qi_.mk (hbox); have n4_ := qi_.mk ((by rw [hg]; exact (qq_ (by repeat (first | (with_reducible first | exact HB.out | apply qe_ | apply qa_ | apply qc_ | refine qf_ ?_ GE128.out | refine qf_ ?_ GE129.out) | exact HB.out))) : w.heap.size ≤ gb132)); have n5_ := qi_.mk ((by rw [hg]; exact (qq_ (by repeat (first | (with_reducible first | exact HB.out | apply qe_ | apply qa_ | apply qc_ | refine qf_ ?_ GE128.out | refine qf_ ?_ GE129.out) | exact HB.out))) : w.heap.size ≤ gb132)); have n6_ := qi_.mk ((by rw [hg]; exact Nat.ne_of_lt (blk_lt (g := gb128) (o := .cells #[.slice A0_0 l0_0.length c0_0] 41 (0, 0)) (by (with_reducible repeat (first | refine qd_ ?_ _ | refine qh_ ?_)); exact BK128.out)) : gb128 ≠ gb132)); have n7_ := qi_.mk ((by rw [hg]; exact Nat.ne_of_gt (blk_lt (g := gb128) (o := .cells #[.slice A0_0 l0_0.length c0_0] 41 (0, 0)) (by (with_reducible repeat (first | refine qd_ ?_ _ | refine qh_ ?_)); exact BK128.out)) : gb132 ≠ gb128)); have n8_ := qi_.mk ((by rw [hg]; exact Nat.ne_of_lt (blk_lt (g := gb129) (o := .cells #[.int .i64 0, .int .i64 0] 26 (0, 0)) (by (with_reducible repeat (first | refine qd_ ?_ _ | refine qh_ ?_)); exact BK129.out)) : gb129 ≠ gb132)); have n9_ := qi_.mk ((by rw [hg]; exact Nat.ne_of_gt (blk_lt (g := gb129) (o := .cells #[.int .i64 0, .int .i64 0] 26 (0, 0)) (by (with_reducible repeat (first | refine qd_ ?_ _ | refine qh_ ?_)); exact BK129.out)) : gb132 ≠ gb129)); clear BK128; clear BK129; clear HB; have BK128 := n0_; have BK129 := n1_; have HB := n2_; have BK132 := n3_; have GW132 := n4_; have GE132 := n5_; have NB128_132 := n6_; have NB132_128 := n7_; have NB129_132 := n8_; have NB132_129 := n9_; clear n0_ n1_ n2_ n3_ n4_ n5_ n6_ n7_ n8_ n9_; clear hb hbox hg; have hnb13 := NB132_128.out; have hnc13 := NB128_132.out; have hnb14 := NB132_129.out; have hnc14 := NB129_132.out; have hcz15_0 : w12.cell? ⟨gb132, 0, none⟩ = some (.int .i64 0) := (qb_ BK132.out 0).trans rfl; have hcz15_1 : w12.cell? ⟨gb132, 1, none⟩ = some (.int .i64 0) := (qb_ BK132.out 1).trans rfl; have hfz15_0 := qg_ BK132.out 0; have hfz15_1 := qg_ BK132.out 1) | ((with_reducible refine q2_ (f := 16) rfl ?_); refine goesL_ (some 19) rfl rfl Try.func16 (by kernel_rfl) rfl #[.slice A1 l1.length c1] rfl (by simp only [List.map_toArray]; first | done | rfl | (simp only [List.length_drop, List.length_take]; rfl)) ?_; (with_reducible refine (lines_Code.calls k _ _ l1 t133 _ ?side1 ?side2 A5.out).mono ?_); (case side1 => exact Kd.C_below HR1.out (by repeat (first | (with_reducible first | exact HB.out | apply qe_ | apply qa_ | apply qc_ | refine qf_ ?_ GE128.out | refine qf_ ?_ GE129.out | refine qf_ ?_ GE132.out) | exact HB.out))); (case side2 => exact HC1.out); rintro e w16 ⟨rfl, hb⟩; refine ⟨_, rfl, ?_⟩; have n0_ := qi_.mk (qn_ (g := gb128) (o := .cells #[.slice A0_0 l0_0.length c0_0] 41 (0, 0)) (by (with_reducible repeat (first | refine qd_ ?_ _ | refine qh_ ?_)); refine q7_ ?_ NB128_132.out _; (with_reducible repeat (first | refine qd_ ?_ _ | refine qh_ ?_)); refine q7_ ?_ NB128_132.out _; (with_reducible repeat (first | refine qd_ ?_ _ | refine qh_ ?_)); exact BK128.out) hb); have n1_ := qi_.mk (qn_ (g := gb129) (o := .cells #[.int .i64 0, .int .i64 0] 26 (0, 0)) (by (with_reducible repeat (first | refine qd_ ?_ _ | refine qh_ ?_)); refine q7_ ?_ NB129_132.out _; (with_reducible repeat (first | refine qd_ ?_ _ | refine qh_ ?_)); refine q7_ ?_ NB129_132.out _; (with_reducible repeat (first | refine qd_ ?_ _ | refine qh_ ?_)); exact BK129.out) hb); have n2_ := qi_.mk (qn_ (g := gb132) (o := .cells #[.int .i64 t130, .int .i64 t131] 26 (0, 0)) (by (with_reducible repeat (first | refine qd_ ?_ _ | refine qh_ ?_)); refine q6_ (cs := #[.int .i64 t130, .int .i64 0]) ?_ 1 _ rfl; (with_reducible repeat (first | refine qd_ ?_ _ | refine qh_ ?_)); refine q6_ (cs := #[.int .i64 0, .int .i64 0]) ?_ 0 _ rfl; (with_reducible repeat (first | refine qd_ ?_ _ | refine qh_ ?_)); exact BK132.out) hb); have n3_ := qi_.mk (qr_ (by repeat (first | (with_reducible first | exact HB.out | apply qe_ | apply qa_ | apply qc_ | refine qf_ ?_ GE128.out | refine qf_ ?_ GE129.out | refine qf_ ?_ GE132.out) | exact HB.out)) hb); clear BK128; clear BK129; clear BK132; clear HB; have BK128 := n0_; have BK129 := n1_; have BK132 := n2_; have HB := n3_; clear n0_ n1_ n2_ n3_; (try clear hb); have hcz17_0 : w16.cell? ⟨gb128, 0, none⟩ = some (.slice A0_0 l0_0.length c0_0) := (qb_ BK128.out 0).trans rfl; have hfz17_0 := qg_ BK128.out 0))
   go_loopg [8, 9, 27] k (fun kq v8 v9 v27 w' => ∃ (x8_1 : List ByteArray) (x9_1 : Int) (x27_1 : Int) (x130000_1 : Int) (x130001_1 : Int), v9 = .int .i64 x9_1 ∧ v27 = .int .i64 x27_1 ∧ qi_ (qy_.l0 kq l1 x8_1 x9_1 l0_0 (l0_0.length : Int) x27_1 = some (r1, r2, r3)) ∧ qi_ (kq ≤ k) ∧ qi_ (Kd.R Kd.string 9 w' w.heap.size (fun _ => True) v8 x8_1) ∧ qi_ (w'.heap[gb128]? = some (.cells #[(.slice A0_0 l0_0.length c0_0)] 41 (0, 0))) ∧ qi_ (w'.heap[gb129]? = some (.cells #[.int .i64 x130000_1, .int .i64 x130001_1] 26 (0, 0))) ∧ qi_ (w'.heap[gb132]? = some (.cells #[.int .i64 t130, .int .i64 t131] 26 (0, 0))) ∧ qi_ (Below w.heap.size w w'))
   case atStart => exact ⟨(([] : List ByteArray)), (0), (0), (0), (0), (by first | rfl | (simp; done) | (simp [*]; done)), (by first | rfl | (simp; done) | (simp [*]; done)), H', ⟨Nat.le_refl _⟩, ⟨by first | exact Kd.R_nil _ _ _ _ _ | exact Kd.N_nil _ _ _ _ _ | exact Kd.V_nil _ _ _ _ _ | exact Kd.Q_nil _ _ _ _ _ | exact Kd.S_nil _ _ _ _ _⟩, ⟨by (with_reducible repeat (first | refine qd_ ?_ _ | refine qh_ ?_)); exact BK128.out⟩, ⟨by (with_reducible repeat (first | refine qd_ ?_ _ | refine qh_ ?_)); exact BK129.out⟩, ⟨by (with_reducible repeat (first | refine qd_ ?_ _ | refine qh_ ?_)); exact BK132.out⟩, ⟨by repeat (first | (with_reducible first | exact HB.out | apply qe_ | apply qa_ | apply qc_ | refine qf_ ?_ GE128.out | refine qf_ ?_ GE129.out | refine qf_ ?_ GE132.out) | exact HB.out)⟩⟩
   case round =>
    clear H'
    try clear c1
    try clear c2
    try clear p2
    try clear c3
    try clear c4
    try clear c4b0
    try clear c4b1
    try clear c6
    try clear c6b0
    try clear c6b1
    try clear c9
    try clear c13
    try clear c14
    try clear c16
    try clear hcz10_0
    try clear hcz15_0
    try clear hcz15_1
    try clear hcz17_0
    try clear hfz10_0
    try clear hfz15_0
    try clear hfz15_1
    try clear hfz17_0
    obtain ⟨x8_1, x9_1, x27_1, x130000_1, x130001_1, rfl, rfl, HA, HK1, HO_8, BK128, BK129, BK132, HB⟩ := hrel
    cases gk with
    | zero => exact absurd HA.out (by simp [qy_.l0])
    | succ k1 =>
     have H := HA.out
     clear HA
     simp only [qy_.l0] at H
     by_cases c18 : x27_1 < (l0_0.length : Int)
     ·rw [if_pos c18] at H
      have c18b0 : decide (x27_1 < (l0_0.length : Int)) = true := decide_eq_true c18
      clear c18
      by_cases c19 : 0 ≤ x27_1
      ·rw [if_pos c19] at H
       have c19b0 : decide (0 ≤ x27_1) = true := decide_eq_true c19
       clear c19
       by_cases c20 : x27_1 < (l0_0.length : Int)
       ·rw [if_pos c20] at H
        have c20b0 : decide (x27_1 < (l0_0.length : Int)) = true := decide_eq_true c20
        clear c20
        replace H := Option.bind_eq_some_iff.mp H
        obtain ⟨t140, A210, H⟩ := H
        replace H : (if t140 > (l1.length : Int) then (some (([] : List ByteArray), 19, x27_1)) else ((textpatch_End.f ((rd_T52 l0_0 x27_1).f0) ((rd_T52 l0_0 x27_1).f1) ((rd_T52 l0_0 x27_1).f2)).bind fun t141 => (if 0 ≤ ((rd_T52 l0_0 x27_1).f0) then (if ((rd_T52 l0_0 x27_1).f0) ≤ t141 then (if t141 ≤ (l1.length : Int) then ((q0_.f k1 ((l1.take (t141 : Int).toNat).drop (((rd_T52 l0_0 x27_1).f0) : Int).toNat) ((rd_T52 l0_0 x27_1).f1)).bind fun t143 => (if t143 = true then (if 0 ≤ x9_1 then (if x9_1 ≤ ((rd_T52 l0_0 x27_1).f0) then (if ((rd_T52 l0_0 x27_1).f0) ≤ (l1.length : Int) then (if x8_1.length + ((l1.take (((rd_T52 l0_0 x27_1).f0) : Int).toNat).drop (x9_1 : Int).toNat).length < 8796093022208 then ((some (x8_1 ++ ((l1.take (((rd_T52 l0_0 x27_1).f0) : Int).toNat).drop (x9_1 : Int).toNat) : List ByteArray)).bind fun y145 => (if y145.length + ((rd_T52 l0_0 x27_1).f2).length < 8796093022208 then ((textpatch_End.f ((rd_T52 l0_0 x27_1).f0) ((rd_T52 l0_0 x27_1).f1) ((rd_T52 l0_0 x27_1).f2)).bind fun t151 => (qy_.l0 k1 l1 (y145 ++ ((rd_T52 l0_0 x27_1).f2)) t151 l0_0 (l0_0.length : Int) (wrap64 (x27_1 + 1)))) else (none))) else (none)) else (none)) else (none)) else (none)) else (some (([] : List ByteArray), 19, x27_1)))) else (none)) else (none)) else (none)))) = some (r1, r2, r3) := H
        have A21 := qi_.mk A210
        clear A210
        by_cases c22 : t140 > (l1.length : Int)
        ·rw [if_pos c22] at H
         have c22b0 : decide ((l1.length : Int) < t140) = true := decide_eq_true c22
         clear c22
         simp only [Option.some.injEq, Prod.mk.injEq] at H
         obtain ⟨rfl, rfl, rfl⟩ := H
         have p138 : 0 ≤ (x27_1 : Int) := of_decide_eq_true (by assumption)
         have q138 : x27_1 < (l0_0.length : Int) := of_decide_eq_true (by assumption)
         obtain ⟨ad138, A138_1, c138_1, A138_2, c138_2, e138, hx138_0, hx138_1, hx138_2, hl138_1, hi138_1, hl138_2, hi138_2⟩ := at_T52 HR0_0.out x27_1 p138 q138
         cases e138
         replace hx138_0 := (HB.out.cell (World.block_lt_of_cell? w _ hx138_0)).trans hx138_0
         replace hx138_1 := (HB.out.cell (World.block_lt_of_cell? w _ hx138_1)).trans hx138_1
         replace hx138_2 := (HB.out.cell (World.block_lt_of_cell? w _ hx138_2)).trans hx138_2
         have HR138_1 := qi_.mk hi138_1
         have HC138_1 := qi_.mk hl138_1
         clear hi138_1 hl138_1
         have HR138_2 := qi_.mk hi138_2
         have HC138_2 := qi_.mk hl138_2
         clear hi138_2 hl138_2
         replace p138 := eq_true p138
         replace q138 := eq_true q138
         try go_wp2_with (first | ((with_reducible refine gate_dst (N := 11) rfl ?_); refine q1_ ?hg (N := 11) ?hd (cs := #[.int .i64 0, .slice none 0 0, .slice none 0 0]) (t := 52) ?hr ?_; (case hd => rfl); (case hg => rfl); (case hr => first | (go_simp; done) | (go_simp; rfl)); intro gb139 hg w23 hbox hb; have n0_ := qi_.mk (Kd.R_below (by (with_reducible repeat (first | apply Kd.qo_ | apply Kd.qp_)); exact HO_8.out) hb); have n1_ := qi_.mk (qn_ (g := gb128) (o := .cells #[.slice (some ad138) l0_0.length c0_0] 41 (0, 0)) (by (with_reducible repeat (first | refine qd_ ?_ _ | refine qh_ ?_)); exact BK128.out) hb); have n2_ := qi_.mk (qn_ (g := gb129) (o := .cells #[.int .i64 x130000_1, .int .i64 x130001_1] 26 (0, 0)) (by (with_reducible repeat (first | refine qd_ ?_ _ | refine qh_ ?_)); exact BK129.out) hb); have n3_ := qi_.mk (qn_ (g := gb132) (o := .cells #[.int .i64 t130, .int .i64 t131] 26 (0, 0)) (by (with_reducible repeat (first | refine qd_ ?_ _ | refine qh_ ?_)); exact BK132.out) hb); have n4_ := qi_.mk (qr_ (by repeat (first | (with_reducible first | exact HB.out | apply qe_ | apply qa_ | apply qc_ | refine qf_ ?_ GE128.out | refine qf_ ?_ GE129.out | refine qf_ ?_ GE132.out) | exact HB.out)) hb); have n5_ := qi_.mk (hbox); have n6_ := qi_.mk ((by rw [hg]; exact (qq_ (by repeat (first | (with_reducible first | exact HB.out | apply qe_ | apply qa_ | apply qc_ | refine qf_ ?_ GE128.out | refine qf_ ?_ GE129.out | refine qf_ ?_ GE132.out) | exact HB.out))) : w.heap.size ≤ gb139)); have n7_ := qi_.mk ((by rw [hg]; exact (qq_ (by repeat (first | (with_reducible first | exact HB.out | apply qe_ | apply qa_ | apply qc_ | refine qf_ ?_ GE128.out | refine qf_ ?_ GE129.out | refine qf_ ?_ GE132.out) | exact HB.out))) : w.heap.size ≤ gb139)); have n8_ := qi_.mk ((by rw [hg]; exact Nat.ne_of_lt (blk_lt (g := gb128) (o := .cells #[.slice (some ad138) l0_0.length c0_0] 41 (0, 0)) (by (with_reducible repeat (first | refine qd_ ?_ _ | refine qh_ ?_)); exact BK128.out)) : gb128 ≠ gb139)); have n9_ := qi_.mk ((by rw [hg]; exact Nat.ne_of_gt (blk_lt (g := gb128) (o := .cells #[.slice (some ad138) l0_0.length c0_0] 41 (0, 0)) (by (with_reducible repeat (first | refine qd_ ?_ _ | refine qh_ ?_)); exact BK128.out)) : gb139 ≠ gb128)); have n10_ := qi_.mk ((by rw [hg]; exact Nat.ne_of_lt (blk_lt (g := gb129) (o := .cells #[.int .i64 x130000_1, .int .i64 x130001_1] 26 (0, 0)) (by (with_reducible repeat (first | refine qd_ ?_ _ | refine qh_ ?_)); exact BK129.out)) : gb129 ≠ gb139)); have n11_ := qi_.mk ((by rw [hg]; exact Nat.ne_of_gt (blk_lt (g := gb129) (o := .cells #[.int .i64 x130000_1, .int .i64 x130001_1] 26 (0, 0)) (by (with_reducible repeat (first | refine qd_ ?_ _ | refine qh_ ?_)); exact BK129.out)) : gb139 ≠ gb129)); have n12_ := qi_.mk ((by rw [hg]; exact Nat.ne_of_lt (blk_lt (g := gb132) (o := .cells #[.int .i64 t130, .int .i64 t131] 26 (0, 0)) (by (with_reducible repeat (first | refine qd_ ?_ _ | refine qh_ ?_)); exact BK132.out)) : gb132 ≠ gb139)); have n13_ := qi_.mk ((by rw [hg]; exact Nat.ne_of_gt (blk_lt (g := gb132) (o := .cells #[.int .i64 t130, .int .i64 t131] 26 (0, 0)) (by (with_reducible repeat (first | refine qd_ ?_ _ | refine qh_ ?_)); exact BK132.out)) : gb139 ≠ gb132)); clear HO_8; clear BK128; clear BK129; clear BK132; clear HB; have HO_8 := n0_; have BK128 := n1_; have BK129 := n2_; have BK132 := n3_; have HB := n4_; have BK139 := n5_; have GW139 := n6_; have GE139 := n7_; have NB128_139 := n8_; have NB139_128 := n9_; have NB129_139 := n10_; have NB139_129 := n11_; have NB132_139 := n12_; have NB139_132 := n13_; clear n0_ n1_ n2_ n3_ n4_ n5_ n6_ n7_ n8_ n9_ n10_ n11_ n12_ n13_; clear hb hbox hg; have hnb24 := NB139_128.out; have hnc24 := NB128_139.out; have hnb25 := NB139_129.out; have hnc25 := NB129_139.out; have hnb26 := NB139_132.out; have hnc26 := NB132_139.out; have hcz27_0 : w23.cell? ⟨gb139, 0, none⟩ = some (.int .i64 0) := (qb_ BK139.out 0).trans rfl; have hcz27_1 : w23.cell? ⟨gb139, 1, none⟩ = some (.slice none 0 0) := (qb_ BK139.out 1).trans rfl; have hcz27_2 : w23.cell? ⟨gb139, 2, none⟩ = some (.slice none 0 0) := (qb_ BK139.out 2).trans rfl; have hfz27_0 := qg_ BK139.out 0; have hfz27_1 := qg_ BK139.out 1; have hfz27_2 := qg_ BK139.out 2))
         have n0_ : qi_ (Kd.R Kd.string 9 (((w23.setCell ⟨gb139, 0, none⟩ (.int .i64 ((rd_T52 l0_0 x27_1).f0))).setCell ⟨gb139, 1, none⟩ (.slice A138_1 ((rd_T52 l0_0 x27_1).f1).length c138_1)).setCell ⟨gb139, 2, none⟩ (.slice A138_2 ((rd_T52 l0_0 x27_1).f2).length c138_2)) w.heap.size (fun _ => True) u8 x8_1) := ⟨by (with_reducible repeat (first | apply Kd.qo_ | apply Kd.qp_)); exact Kd.R_mono (Kd.R_far (p := ⟨gb139, 2, none⟩) (Kd.R_far (p := ⟨gb139, 1, none⟩) (Kd.R_far (p := ⟨gb139, 0, none⟩) (Kd.R_types HO_8.out BK139.out (by decide)) (fun _ hk => hk.2) (.int .i64 ((rd_T52 l0_0 x27_1).f0))) (fun _ hk => hk.2) (.slice A138_1 ((rd_T52 l0_0 x27_1).f1).length c138_1)) (fun _ hk => hk.2) (.slice A138_2 ((rd_T52 l0_0 x27_1).f2).length c138_2)) (fun _ hk => trivial)⟩
         have n1_ : qi_ ((((w23.setCell ⟨gb139, 0, none⟩ (.int .i64 ((rd_T52 l0_0 x27_1).f0))).setCell ⟨gb139, 1, none⟩ (.slice A138_1 ((rd_T52 l0_0 x27_1).f1).length c138_1)).setCell ⟨gb139, 2, none⟩ (.slice A138_2 ((rd_T52 l0_0 x27_1).f2).length c138_2)).heap[gb128]? = some (.cells #[.slice (some ad138) l0_0.length c0_0] 41 (0, 0))) := ⟨by (with_reducible repeat (first | refine qd_ ?_ _ | refine qh_ ?_)); refine q7_ ?_ NB128_139.out _; (with_reducible repeat (first | refine qd_ ?_ _ | refine qh_ ?_)); refine q7_ ?_ NB128_139.out _; (with_reducible repeat (first | refine qd_ ?_ _ | refine qh_ ?_)); refine q7_ ?_ NB128_139.out _; (with_reducible repeat (first | refine qd_ ?_ _ | refine qh_ ?_)); exact BK128.out⟩
         have n2_ : qi_ ((((w23.setCell ⟨gb139, 0, none⟩ (.int .i64 ((rd_T52 l0_0 x27_1).f0))).setCell ⟨gb139, 1, none⟩ (.slice A138_1 ((rd_T52 l0_0 x27_1).f1).length c138_1)).setCell ⟨gb139, 2, none⟩ (.slice A138_2 ((rd_T52 l0_0 x27_1).f2).length c138_2)).heap[gb129]? = some (.cells #[.int .i64 x130000_1, .int .i64 x130001_1] 26 (0, 0))) := ⟨by (with_reducible repeat (first | refine qd_ ?_ _ | refine qh_ ?_)); refine q7_ ?_ NB129_139.out _; (with_reducible repeat (first | refine qd_ ?_ _ | refine qh_ ?_)); refine q7_ ?_ NB129_139.out _; (with_reducible repeat (first | refine qd_ ?_ _ | refine qh_ ?_)); refine q7_ ?_ NB129_139.out _; (with_reducible repeat (first | refine qd_ ?_ _ | refine qh_ ?_)); exact BK129.out⟩
         have n3_ : qi_ ((((w23.setCell ⟨gb139, 0, none⟩ (.int .i64 ((rd_T52 l0_0 x27_1).f0))).setCell ⟨gb139, 1, none⟩ (.slice A138_1 ((rd_T52 l0_0 x27_1).f1).length c138_1)).setCell ⟨gb139, 2, none⟩ (.slice A138_2 ((rd_T52 l0_0 x27_1).f2).length c138_2)).heap[gb132]? = some (.cells #[.int .i64 t130, .int .i64 t131] 26 (0, 0))) := ⟨by (with_reducible repeat (first | refine qd_ ?_ _ | refine qh_ ?_)); refine q7_ ?_ NB132_139.out _; (with_reducible repeat (first | refine qd_ ?_ _ | refine qh_ ?_)); refine q7_ ?_ NB132_139.out _; (with_reducible repeat (first | refine qd_ ?_ _ | refine qh_ ?_)); refine q7_ ?_ NB132_139.out _; (with_reducible repeat (first | refine qd_ ?_ _ | refine qh_ ?_)); exact BK132.out⟩
         have n4_ : qi_ ((((w23.setCell ⟨gb139, 0, none⟩ (.int .i64 ((rd_T52 l0_0 x27_1).f0))).setCell ⟨gb139, 1, none⟩ (.slice A138_1 ((rd_T52 l0_0 x27_1).f1).length c138_1)).setCell ⟨gb139, 2, none⟩ (.slice A138_2 ((rd_T52 l0_0 x27_1).f2).length c138_2)).heap[gb139]? = some (.cells #[.int .i64 ((rd_T52 l0_0 x27_1).f0), .slice A138_1 ((rd_T52 l0_0 x27_1).f1).length c138_1, .slice A138_2 ((rd_T52 l0_0 x27_1).f2).length c138_2] 52 (0, 0))) := ⟨by (with_reducible repeat (first | refine qd_ ?_ _ | refine qh_ ?_)); refine q6_ (cs := #[.int .i64 ((rd_T52 l0_0 x27_1).f0), .slice A138_1 ((rd_T52 l0_0 x27_1).f1).length c138_1, .slice none 0 0]) ?_ 2 _ rfl; (with_reducible repeat (first | refine qd_ ?_ _ | refine qh_ ?_)); refine q6_ (cs := #[.int .i64 ((rd_T52 l0_0 x27_1).f0), .slice none 0 0, .slice none 0 0]) ?_ 1 _ rfl; (with_reducible repeat (first | refine qd_ ?_ _ | refine qh_ ?_)); refine q6_ (cs := #[.int .i64 0, .slice none 0 0, .slice none 0 0]) ?_ 0 _ rfl; (with_reducible repeat (first | refine qd_ ?_ _ | refine qh_ ?_)); exact BK139.out⟩
         have n5_ : qi_ (Below w.heap.size w (((w23.setCell ⟨gb139, 0, none⟩ (.int .i64 ((rd_T52 l0_0 x27_1).f0))).setCell ⟨gb139, 1, none⟩ (.slice A138_1 ((rd_T52 l0_0 x27_1).f1).length c138_1)).setCell ⟨gb139, 2, none⟩ (.slice A138_2 ((rd_T52 l0_0 x27_1).f2).length c138_2))) := ⟨by repeat (first | (with_reducible first | exact HB.out | apply qe_ | apply qa_ | apply qc_ | refine qf_ ?_ GE128.out | refine qf_ ?_ GE129.out | refine qf_ ?_ GE132.out | refine qf_ ?_ GE139.out) | exact HB.out)⟩
         (try clear HO_8)
         (try clear BK128)
         (try clear BK129)
         (try clear BK132)
         (try clear BK139)
         (try clear HB)
         generalize (((w23.setCell ⟨gb139, 0, none⟩ (.int .i64 ((rd_T52 l0_0 x27_1).f0))).setCell ⟨gb139, 1, none⟩ (.slice A138_1 ((rd_T52 l0_0 x27_1).f1).length c138_1)).setCell ⟨gb139, 2, none⟩ (.slice A138_2 ((rd_T52 l0_0 x27_1).f2).length c138_2)) = w28 at n0_ n1_ n2_ n3_ n4_ n5_ ⊢
         have HO_8 := n0_
         have BK128 := n1_
         have BK129 := n2_
         have BK132 := n3_
         have BK139 := n4_
         have HB := n5_
         clear n0_ n1_ n2_ n3_ n4_ n5_
         have n0_ := qi_.mk (Kd.qp_ HO_8.out)
         have n1_ := qi_.mk (qh_ BK128.out)
         have n2_ := qi_.mk (qh_ BK129.out)
         have n3_ := qi_.mk (qh_ BK132.out)
         have n4_ := qi_.mk (qh_ BK139.out)
         have n5_ := qi_.mk (qc_ HB.out)
         clear HO_8
         clear BK128
         clear BK129
         clear BK132
         clear BK139
         clear HB
         have HO_8 := n0_
         have BK128 := n1_
         have BK129 := n2_
         have BK132 := n3_
         have BK139 := n4_
         have HB := n5_
         clear n0_ n1_ n2_ n3_ n4_ n5_
         refine start_ (n := 17) (S := fun w' => w'.cell? ⟨gb139, 0, none⟩ = some (.int .i64 ((rd_T52 l0_0 x27_1).f0)) ∧ w'.cell? ⟨gb139, 1, none⟩ = some (.slice A138_1 ((rd_T52 l0_0 x27_1).f1).length c138_1) ∧ w'.cell? ⟨gb139, 2, none⟩ = some (.slice A138_2 ((rd_T52 l0_0 x27_1).f2).length c138_2)) (ds := []) #[false, false, false, false, false, false, false, false, false, false, false, false, false, false, false, false, false] (by kernel_rfl) rfl rfl ⟨(qb_ BK139.out 0).trans rfl, (qb_ BK139.out 1).trans rfl, (qb_ BK139.out 2).trans rfl⟩ (fun hHeld => ?_); refine with_tabW qy_.tab12 qy_.bits12 (fun HT_ HW_ => ?_)
         generalize w28.drew = w29 at HO_8 BK128 BK129 BK132 BK139 HB hHeld ⊢
         refine pure_ (i := 2) (N := some 34) (v := ?_) (a' := ?_) #[false, false, true, false, false, false, false, false, false, false, false, false, false, false, false, false, false] rfl rfl (any_of HT_.out (by kernel_rfl)) (fun _ _ _ h => h) (Or.inl ⟨by rfl, ?_⟩) ?_ ?_
         rotate_left
         ·intro w'
          go_simp
          with_reducible rfl
         rotate_left
         ·simp only [Act.put, List.setIfInBounds_toArray, List.set_cons_zero, List.set_cons_succ, i64_w, i32_w]
          rfl
         refine pure_ (i := 3) (N := some 35) (v := ?_) (a' := ?_) #[false, false, true, true, false, false, false, false, false, false, false, false, false, false, false, false, false] rfl rfl (any_of HT_.out (by kernel_rfl)) (fun _ _ _ h => h) (Or.inl ⟨by rfl, ?_⟩) ?_ ?_
         rotate_left
         ·intro w'
          go_simp
          with_reducible rfl
         rotate_left
         ·simp only [Act.put, List.setIfInBounds_toArray, List.set_cons_zero, List.set_cons_succ, i64_w, i32_w]
          rfl
         refine take_ (i := 0) (N := some 32) (v := ?_) (a' := ?_) #[true, false, true, true, false, false, false, false, false, false, false, false, false, false, false, false, false] rfl rfl (take_ofW HT_.out HW_.out (by kernel_rfl)) (fun _ _ _ h => h) (Or.inl ⟨by rfl, ?_⟩) hHeld ?_ ?_
         rotate_left
         ·rintro w' ⟨s0, s1, s2⟩
          go_simp
          with_reducible rfl
         rotate_left
         ·simp only [Act.put, List.setIfInBounds_toArray, List.set_cons_zero, List.set_cons_succ, i64_w, i32_w]
          rfl
         refine one_ (i := 1) (N := some 33) #[true, true, true, true, false, false, false, false, false, false, false, false, false, false, false, false, false] rfl rfl (one_of HT_.out (by kernel_rfl)) (by decide) (fun K hK => ?_)
         refine goes_ Try.func32 (by kernel_rfl) rfl #[.agg #[.int .i64 ((rd_T52 l0_0 x27_1).f0), .slice A138_1 ((rd_T52 l0_0 x27_1).f1).length c138_1, .slice A138_2 ((rd_T52 l0_0 x27_1).f2).length c138_2]] (by rfl) rfl rfl (by simp only [List.map_toArray]; first | done | rfl | (simp only [List.length_drop, List.length_take]; rfl)) ?_
         with_reducible refine (textpatch_End.calls ((rd_T52 l0_0 x27_1).f0) _ _ ((rd_T52 l0_0 x27_1).f1) _ _ ((rd_T52 l0_0 x27_1).f2) t140 _ ?side1 ?side2 ?side3 ?side4 A21.out).mono ?_
         (case side1 => repeat (first | exact (Kd.C_below HR138_1.out HB.out)))
         (case side2 => exact HC138_1.out)
         (case side3 => repeat (first | exact (Kd.C_below HR138_2.out HB.out)))
         (case side4 => exact HC138_2.out)
         rintro e w30 ⟨rfl, hb⟩
         refine ⟨_, rfl, ?_⟩
         have n0_ := qi_.mk (Kd.R_below (by (with_reducible repeat (first | apply Kd.qo_ | apply Kd.qp_)); exact HO_8.out) hb)
         have n1_ := qi_.mk (qn_ (g := gb128) (o := .cells #[.slice (some ad138) l0_0.length c0_0] 41 (0, 0)) (by (with_reducible repeat (first | refine qd_ ?_ _ | refine qh_ ?_)); exact BK128.out) hb)
         have n2_ := qi_.mk (qn_ (g := gb129) (o := .cells #[.int .i64 x130000_1, .int .i64 x130001_1] 26 (0, 0)) (by (with_reducible repeat (first | refine qd_ ?_ _ | refine qh_ ?_)); exact BK129.out) hb)
         have n3_ := qi_.mk (qn_ (g := gb132) (o := .cells #[.int .i64 t130, .int .i64 t131] 26 (0, 0)) (by (with_reducible repeat (first | refine qd_ ?_ _ | refine qh_ ?_)); exact BK132.out) hb)
         have n4_ := qi_.mk (qn_ (g := gb139) (o := .cells #[.int .i64 ((rd_T52 l0_0 x27_1).f0), .slice A138_1 ((rd_T52 l0_0 x27_1).f1).length c138_1, .slice A138_2 ((rd_T52 l0_0 x27_1).f2).length c138_2] 52 (0, 0)) (by (with_reducible repeat (first | refine qd_ ?_ _ | refine qh_ ?_)); exact BK139.out) hb)
         have n5_ := qi_.mk (qr_ (by repeat (first | (with_reducible first | exact HB.out | apply qe_ | apply qa_ | apply qc_ | refine qf_ ?_ GE128.out | refine qf_ ?_ GE129.out | refine qf_ ?_ GE132.out | refine qf_ ?_ GE139.out) | exact HB.out)) hb)
         clear HO_8
         clear BK128
         clear BK129
         clear BK132
         clear BK139
         clear HB
         have HO_8 := n0_
         have BK128 := n1_
         have BK129 := n2_
         have BK132 := n3_
         have BK139 := n4_
         have HB := n5_
         clear n0_ n1_ n2_ n3_ n4_ n5_
         (try clear hb)
         (try clear hb2)
         (try clear hk)
         (try clear hi)
         refine hK.out _ _ ⟨(qb_ BK139.out 0).trans rfl, (qb_ BK139.out 1).trans rfl, (qb_ BK139.out 2).trans rfl⟩ (fun hHeld => ?_)
         clear hK K
         refine norm_ (a' := ?_) ?_ ?_
         rotate_left
         ·show Act.put _ (some 33) _ = _
          simp only [Act.put, List.setIfInBounds_toArray, List.set_cons_zero, List.set_cons_succ, i64_w, i32_w]
          rfl
         refine pure_ (i := 4) (N := some 36) (v := ?_) (a' := ?_) #[true, true, true, true, true, false, false, false, false, false, false, false, false, false, false, false, false] rfl rfl (any_of HT_.out (by kernel_rfl)) (fun _ _ _ h => h) (Or.inl ⟨by rfl, ?_⟩) ?_ ?_
         rotate_left
         ·intro w'
          go_simp
          with_reducible rfl
         rotate_left
         ·simp only [Act.put, List.setIfInBounds_toArray, List.set_cons_zero, List.set_cons_succ, i64_w, i32_w]
          rfl
         refine pure_ (i := 5) (N := some 37) (v := ?_) (a' := ?_) #[true, true, true, true, true, true, false, false, false, false, false, false, false, false, false, false, false] rfl rfl (any_of HT_.out (by kernel_rfl)) (fun _ _ _ h => h) (Or.inl ⟨by rfl, ?_⟩) ?_ ?_
         rotate_left
         ·intro w'
          go_simp
          with_reducible rfl
         rotate_left
         ·simp only [Act.put, List.setIfInBounds_toArray, List.set_cons_zero, List.set_cons_succ, i64_w, i32_w]
          rfl
         refine pure_ (i := 6) (N := some 38) (v := undef) (a' := ?_) #[true, true, true, true, true, true, true, false, false, false, false, false, false, false, false, false, false] rfl rfl (any_of HT_.out (by kernel_rfl)) (fun _ _ _ h => h) (Or.inr ⟨by rfl, rfl⟩) ?_ ?_
         rotate_left
         ·simp only [Act.put, List.setIfInBounds_toArray, List.set_cons_zero, List.set_cons_succ, i64_w, i32_w]
          rfl
         refine pure_ (i := 7) (N := some 39) (v := undef) (a' := ?_) #[true, true, true, true, true, true, true, true, false, false, false, false, false, false, false, false, false] rfl rfl (any_of HT_.out (by kernel_rfl)) (fun _ _ _ h => h) (Or.inr ⟨by rfl, rfl⟩) ?_ ?_
         rotate_left
         ·simp only [Act.put, List.setIfInBounds_toArray, List.set_cons_zero, List.set_cons_succ, i64_w, i32_w]
          rfl
         refine pure_ (i := 8) (N := some 40) (v := undef) (a' := ?_) #[true, true, true, true, true, true, true, true, true, false, false, false, false, false, false, false, false] rfl rfl (any_of HT_.out (by kernel_rfl)) (fun _ _ _ h => h) (Or.inr ⟨by rfl, rfl⟩) ?_ ?_
         rotate_left
         ·simp only [Act.put, List.setIfInBounds_toArray, List.set_cons_zero, List.set_cons_succ, i64_w, i32_w]
          rfl
         refine pure_ (i := 9) (N := some 41) (v := undef) (a' := ?_) #[true, true, true, true, true, true, true, true, true, true, false, false, false, false, false, false, false] rfl rfl (any_of HT_.out (by kernel_rfl)) (fun _ _ _ h => h) (Or.inr ⟨by rfl, rfl⟩) ?_ ?_
         rotate_left
         ·simp only [Act.put, List.setIfInBounds_toArray, List.set_cons_zero, List.set_cons_succ, i64_w, i32_w]
          rfl
         refine pure_ (i := 10) (N := some 42) (v := undef) (a' := ?_) #[true, true, true, true, true, true, true, true, true, true, true, false, false, false, false, false, false] rfl rfl (any_of HT_.out (by kernel_rfl)) (fun _ _ _ h => h) (Or.inr ⟨by rfl, rfl⟩) ?_ ?_
         rotate_left
         ·simp only [Act.put, List.setIfInBounds_toArray, List.set_cons_zero, List.set_cons_succ, i64_w, i32_w]
          rfl
         refine pure_ (i := 11) (N := some 43) (v := undef) (a' := ?_) #[true, true, true, true, true, true, true, true, true, true, true, true, false, false, false, false, false] rfl rfl (any_of HT_.out (by kernel_rfl)) (fun _ _ _ h => h) (Or.inr ⟨by rfl, rfl⟩) ?_ ?_
         rotate_left
         ·simp only [Act.put, List.setIfInBounds_toArray, List.set_cons_zero, List.set_cons_succ, i64_w, i32_w]
          rfl
         refine pure_ (i := 12) (N := some 44) (v := undef) (a' := ?_) #[true, true, true, true, true, true, true, true, true, true, true, true, true, false, false, false, false] rfl rfl (any_of HT_.out (by kernel_rfl)) (fun _ _ _ h => h) (Or.inr ⟨by rfl, rfl⟩) ?_ ?_
         rotate_left
         ·simp only [Act.put, List.setIfInBounds_toArray, List.set_cons_zero, List.set_cons_succ, i64_w, i32_w]
          rfl
         refine pure_ (i := 13) (N := some 45) (v := undef) (a' := ?_) #[true, true, true, true, true, true, true, true, true, true, true, true, true, true, false, false, false] rfl rfl (any_of HT_.out (by kernel_rfl)) (fun _ _ _ h => h) (Or.inr ⟨by rfl, rfl⟩) ?_ ?_
         rotate_left
         ·simp only [Act.put, List.setIfInBounds_toArray, List.set_cons_zero, List.set_cons_succ, i64_w, i32_w]
          rfl
         refine pure_ (i := 14) (N := some 46) (v := undef) (a' := ?_) #[true, true, true, true, true, true, true, true, true, true, true, true, true, true, true, false, false] rfl rfl (any_of HT_.out (by kernel_rfl)) (fun _ _ _ h => h) (Or.inr ⟨by rfl, rfl⟩) ?_ ?_
         rotate_left
         ·simp only [Act.put, List.setIfInBounds_toArray, List.set_cons_zero, List.set_cons_succ, i64_w, i32_w]
          rfl
         refine pure_ (i := 15) (N := some 47) (v := undef) (a' := ?_) #[true, true, true, true, true, true, true, true, true, true, true, true, true, true, true, true, false] rfl rfl (any_of HT_.out (by kernel_rfl)) (fun _ _ _ h => h) (Or.inr ⟨by rfl, rfl⟩) ?_ ?_
         rotate_left
         ·simp only [Act.put, List.setIfInBounds_toArray, List.set_cons_zero, List.set_cons_succ, i64_w, i32_w]
          rfl
         refine pure_ (i := 16) (N := some 48) (v := ?_) (a' := ?_) #[true, true, true, true, true, true, true, true, true, true, true, true, true, true, true, true, true] rfl rfl (any_of HT_.out (by kernel_rfl)) (fun _ _ _ h => h) (Or.inl ⟨by rfl, ?_⟩) ?_ ?_
         rotate_left
         ·intro w'
          go_simp
          with_reducible rfl
         rotate_left
         ·simp only [Act.put, List.setIfInBounds_toArray, List.set_cons_zero, List.set_cons_succ, i64_w, i32_w]
          rfl
         refine done_ (done_of HT_.out (by kernel_rfl)) ?_
         have hnb31 := NB129_128.out
         have hnc31 := NB128_129.out
         have hnb32 := NB129_132.out
         have hnc32 := NB132_129.out
         have hcz33_0 : w30.cell? ⟨gb129, 0, none⟩ = some (.int .i64 x130000_1) := (qb_ BK129.out 0).trans rfl
         have hcz33_1 : w30.cell? ⟨gb129, 1, none⟩ = some (.int .i64 x130001_1) := (qb_ BK129.out 1).trans rfl
         have hfz33_0 := qg_ BK129.out 0
         have hfz33_1 := qg_ BK129.out 1
         try go_wp2
         refine bodyPost_ret (results_tc rfl _ _ gb129 26 #[.int .i64 19, .int .i64 x27_1] (0, 0) _ rfl (by (with_reducible repeat (first | refine qd_ ?_ _ | refine qh_ ?_)); refine q6_ (cs := #[.int .i64 19, .int .i64 x130001_1]) ?_ 1 _ rfl; (with_reducible repeat (first | refine qd_ ?_ _ | refine qh_ ?_)); refine q6_ (cs := #[.int .i64 x130000_1, .int .i64 x130001_1]) ?_ 0 _ rfl; (with_reducible repeat (first | refine qd_ ?_ _ | refine qh_ ?_)); exact BK129.out) Try.underlying26 rfl (by kernel_rfl)) rfl ?_
         exact ⟨_, by first | rfl | (simp [*] <;> rfl), by first | exact Kd.R_nil _ _ _ _ _ | exact Kd.N_nil _ _ _ _ _ | exact Kd.V_nil _ _ _ _ _ | exact Kd.Q_nil _ _ _ _ _ | exact Kd.S_nil _ _ _ _ _, by repeat (first | (with_reducible first | exact HB.out | apply qe_ | apply qa_ | apply qc_ | refine qf_ ?_ GE128.out | refine qf_ ?_ GE129.out | refine qf_ ?_ GE132.out | refine qf_ ?_ GE139.out) | exact HB.out)⟩
        ·rw [if_neg c22] at H
         have c22b0 : decide ((l1.length : Int) < t140) = false := decide_eq_false c22
         clear c22
         replace H := Option.bind_eq_some_iff.mp H
         obtain ⟨t141, A340, H⟩ := H
         replace H : (if 0 ≤ ((rd_T52 l0_0 x27_1).f0) then (if ((rd_T52 l0_0 x27_1).f0) ≤ t141 then (if t141 ≤ (l1.length : Int) then ((q0_.f k1 ((l1.take (t141 : Int).toNat).drop (((rd_T52 l0_0 x27_1).f0) : Int).toNat) ((rd_T52 l0_0 x27_1).f1)).bind fun t143 => (if t143 = true then (if 0 ≤ x9_1 then (if x9_1 ≤ ((rd_T52 l0_0 x27_1).f0) then (if ((rd_T52 l0_0 x27_1).f0) ≤ (l1.length : Int) then (if x8_1.length + ((l1.take (((rd_T52 l0_0 x27_1).f0) : Int).toNat).drop (x9_1 : Int).toNat).length < 8796093022208 then ((some (x8_1 ++ ((l1.take (((rd_T52 l0_0 x27_1).f0) : Int).toNat).drop (x9_1 : Int).toNat) : List ByteArray)).bind fun y145 => (if y145.length + ((rd_T52 l0_0 x27_1).f2).length < 8796093022208 then ((textpatch_End.f ((rd_T52 l0_0 x27_1).f0) ((rd_T52 l0_0 x27_1).f1) ((rd_T52 l0_0 x27_1).f2)).bind fun t151 => (qy_.l0 k1 l1 (y145 ++ ((rd_T52 l0_0 x27_1).f2)) t151 l0_0 (l0_0.length : Int) (wrap64 (x27_1 + 1)))) else (none))) else (none)) else (none)) else (none)) else (none)) else (some (([] : List ByteArray), 19, x27_1)))) else (none)) else (none)) else (none)) = some (r1, r2, r3) := H
         have A34 := qi_.mk A340
         clear A340
         by_cases c35 : 0 ≤ ((rd_T52 l0_0 x27_1).f0)
         ·rw [if_pos c35] at H
          have c35b0 := eq_true c35
          have c35b1 : decide (0 ≤ ((rd_T52 l0_0 x27_1).f0)) = true := decide_eq_true c35
          clear c35
          by_cases c36 : ((rd_T52 l0_0 x27_1).f0) ≤ t141
          ·rw [if_pos c36] at H
           have c36b0 := eq_true c36
           have c36b1 : decide (((rd_T52 l0_0 x27_1).f0) ≤ t141) = true := decide_eq_true c36
           clear c36
           by_cases c37 : t141 ≤ (l1.length : Int)
           ·rw [if_pos c37] at H
            have c37b0 := eq_true c37
            have c37b1 : decide (t141 ≤ (l1.length : Int)) = true := decide_eq_true c37
            clear c37
            replace H := Option.bind_eq_some_iff.mp H
            obtain ⟨t143, A380, H⟩ := H
            replace H : (if t143 = true then (if 0 ≤ x9_1 then (if x9_1 ≤ ((rd_T52 l0_0 x27_1).f0) then (if ((rd_T52 l0_0 x27_1).f0) ≤ (l1.length : Int) then (if x8_1.length + ((l1.take (((rd_T52 l0_0 x27_1).f0) : Int).toNat).drop (x9_1 : Int).toNat).length < 8796093022208 then ((some (x8_1 ++ ((l1.take (((rd_T52 l0_0 x27_1).f0) : Int).toNat).drop (x9_1 : Int).toNat) : List ByteArray)).bind fun y145 => (if y145.length + ((rd_T52 l0_0 x27_1).f2).length < 8796093022208 then ((textpatch_End.f ((rd_T52 l0_0 x27_1).f0) ((rd_T52 l0_0 x27_1).f1) ((rd_T52 l0_0 x27_1).f2)).bind fun t151 => (qy_.l0 k1 l1 (y145 ++ ((rd_T52 l0_0 x27_1).f2)) t151 l0_0 (l0_0.length : Int) (wrap64 (x27_1 + 1)))) else (none))) else (none)) else (none)) else (none)) else (none)) else (some (([] : List ByteArray), 19, x27_1))) = some (r1, r2, r3) := H
            have A38 := qi_.mk A380
            clear A380
            by_cases c39 : t143 = true
            ·subst c39
             have H1 : (if 0 ≤ x9_1 then (if x9_1 ≤ ((rd_T52 l0_0 x27_1).f0) then (if ((rd_T52 l0_0 x27_1).f0) ≤ (l1.length : Int) then (if x8_1.length + ((l1.take (((rd_T52 l0_0 x27_1).f0) : Int).toNat).drop (x9_1 : Int).toNat).length < 8796093022208 then ((some (x8_1 ++ ((l1.take (((rd_T52 l0_0 x27_1).f0) : Int).toNat).drop (x9_1 : Int).toNat) : List ByteArray)).bind fun y145 => (if y145.length + ((rd_T52 l0_0 x27_1).f2).length < 8796093022208 then ((textpatch_End.f ((rd_T52 l0_0 x27_1).f0) ((rd_T52 l0_0 x27_1).f1) ((rd_T52 l0_0 x27_1).f2)).bind fun t151 => (qy_.l0 k1 l1 (y145 ++ ((rd_T52 l0_0 x27_1).f2)) t151 l0_0 (l0_0.length : Int) (wrap64 (x27_1 + 1)))) else (none))) else (none)) else (none)) else (none)) else (none)) = some (r1, r2, r3) := by rw [if_pos rfl] at H; exact H
             clear H
             have H := H1
             clear H1
             by_cases c40 : 0 ≤ x9_1
             ·rw [if_pos c40] at H
              have c40b0 := eq_true c40
              have c40b1 : decide (0 ≤ x9_1) = true := decide_eq_true c40
              clear c40
              by_cases c41 : x9_1 ≤ ((rd_T52 l0_0 x27_1).f0)
              ·rw [if_pos c41] at H
               have c41b0 := eq_true c41
               have c41b1 : decide (x9_1 ≤ ((rd_T52 l0_0 x27_1).f0)) = true := decide_eq_true c41
               clear c41
               by_cases c42 : ((rd_T52 l0_0 x27_1).f0) ≤ (l1.length : Int)
               ·rw [if_pos c42] at H
                have c42b0 := eq_true c42
                have c42b1 : decide (((rd_T52 l0_0 x27_1).f0) ≤ (l1.length : Int)) = true := decide_eq_true c42
                clear c42
                by_cases c43 : x8_1.length + ((l1.take (((rd_T52 l0_0 x27_1).f0) : Int).toNat).drop (x9_1 : Int).toNat).length < 8796093022208
                ·rw [if_pos c43] at H
                 have LMc43 := qi_.mk c43
                 clear c43
                 obtain ⟨y145, hy145⟩ : ∃ y_ : List ByteArray, y_ = (x8_1 ++ ((l1.take (((rd_T52 l0_0 x27_1).f0) : Int).toNat).drop (x9_1 : Int).toNat)) := ⟨_, rfl⟩
                 replace H : (if y145.length + ((rd_T52 l0_0 x27_1).f2).length < 8796093022208 then ((textpatch_End.f ((rd_T52 l0_0 x27_1).f0) ((rd_T52 l0_0 x27_1).f1) ((rd_T52 l0_0 x27_1).f2)).bind fun t151 => (qy_.l0 k1 l1 (y145 ++ ((rd_T52 l0_0 x27_1).f2)) t151 l0_0 (l0_0.length : Int) (wrap64 (x27_1 + 1)))) else (none)) = some (r1, r2, r3) := by first | (rw [hy145]; with_reducible exact H) | (have H2_ := (Option.bind_some _ _).symm.trans H; rw [hy145]; with_reducible exact H2_) | (have H2_ := (Option.bind_some _ _).symm.trans H; with_reducible exact H2_) | with_reducible exact H | (rw [hy145]; exact H) | exact H
                 have Ny145 := qi_.mk hy145
                 clear hy145
                 by_cases c44 : y145.length + ((rd_T52 l0_0 x27_1).f2).length < 8796093022208
                 ·rw [if_pos c44] at H
                  have LMc44 := qi_.mk c44
                  clear c44
                  obtain ⟨y148, hy148⟩ : ∃ y_ : List ByteArray, y_ = (y145 ++ ((rd_T52 l0_0 x27_1).f2)) := ⟨_, rfl⟩
                  replace H : ((textpatch_End.f ((rd_T52 l0_0 x27_1).f0) ((rd_T52 l0_0 x27_1).f1) ((rd_T52 l0_0 x27_1).f2)).bind fun t151 => (qy_.l0 k1 l1 y148 t151 l0_0 (l0_0.length : Int) (wrap64 (x27_1 + 1)))) = some (r1, r2, r3) := by first | (rw [hy148]; with_reducible exact H) | (have H2_ := (Option.bind_some _ _).symm.trans H; rw [hy148]; with_reducible exact H2_) | (have H2_ := (Option.bind_some _ _).symm.trans H; with_reducible exact H2_) | with_reducible exact H | (rw [hy148]; exact H) | exact H
                  have Ny148 := qi_.mk hy148
                  clear hy148
                  replace H := Option.bind_eq_some_iff.mp H
                  obtain ⟨t151, A450, H⟩ := H
                  replace H : (qy_.l0 k1 l1 y148 t151 l0_0 (l0_0.length : Int) (wrap64 (x27_1 + 1))) = some (r1, r2, r3) := H
                  have A45 := qi_.mk A450
                  clear A450
                  have H' := qi_.mk H
                  clear H
                  have p138 : 0 ≤ (x27_1 : Int) := of_decide_eq_true (by assumption)
                  have q138 : x27_1 < (l0_0.length : Int) := of_decide_eq_true (by assumption)
                  obtain ⟨ad138, A138_1, c138_1, A138_2, c138_2, e138, hx138_0, hx138_1, hx138_2, hl138_1, hi138_1, hl138_2, hi138_2⟩ := at_T52 HR0_0.out x27_1 p138 q138
                  cases e138
                  replace hx138_0 := (HB.out.cell (World.block_lt_of_cell? w _ hx138_0)).trans hx138_0
                  replace hx138_1 := (HB.out.cell (World.block_lt_of_cell? w _ hx138_1)).trans hx138_1
                  replace hx138_2 := (HB.out.cell (World.block_lt_of_cell? w _ hx138_2)).trans hx138_2
                  have HR138_1 := qi_.mk hi138_1
                  have HC138_1 := qi_.mk hl138_1
                  clear hi138_1 hl138_1
                  have HR138_2 := qi_.mk hi138_2
                  have HC138_2 := qi_.mk hl138_2
                  clear hi138_2 hl138_2
                  replace p138 := eq_true p138
                  replace q138 := eq_true q138
                  try go_wp2_with (first | ((with_reducible refine gate_dst (N := 11) rfl ?_); refine q1_ ?hg (N := 11) ?hd (cs := #[.int .i64 0, .slice none 0 0, .slice none 0 0]) (t := 52) ?hr ?_; (case hd => rfl); (case hg => rfl); (case hr => first | (go_simp; done) | (go_simp; rfl)); intro gb139 hg w46 hbox hb; have n0_ := qi_.mk (Kd.R_below (by (with_reducible repeat (first | apply Kd.qo_ | apply Kd.qp_)); exact HO_8.out) hb); have n1_ := qi_.mk (qn_ (g := gb128) (o := .cells #[.slice (some ad138) l0_0.length c0_0] 41 (0, 0)) (by (with_reducible repeat (first | refine qd_ ?_ _ | refine qh_ ?_)); exact BK128.out) hb); have n2_ := qi_.mk (qn_ (g := gb129) (o := .cells #[.int .i64 x130000_1, .int .i64 x130001_1] 26 (0, 0)) (by (with_reducible repeat (first | refine qd_ ?_ _ | refine qh_ ?_)); exact BK129.out) hb); have n3_ := qi_.mk (qn_ (g := gb132) (o := .cells #[.int .i64 t130, .int .i64 t131] 26 (0, 0)) (by (with_reducible repeat (first | refine qd_ ?_ _ | refine qh_ ?_)); exact BK132.out) hb); have n4_ := qi_.mk (qr_ (by repeat (first | (with_reducible first | exact HB.out | apply qe_ | apply qa_ | apply qc_ | refine qf_ ?_ GE128.out | refine qf_ ?_ GE129.out | refine qf_ ?_ GE132.out) | exact HB.out)) hb); have n5_ := qi_.mk (hbox); have n6_ := qi_.mk ((by rw [hg]; exact (qq_ (by repeat (first | (with_reducible first | exact HB.out | apply qe_ | apply qa_ | apply qc_ | refine qf_ ?_ GE128.out | refine qf_ ?_ GE129.out | refine qf_ ?_ GE132.out) | exact HB.out))) : w.heap.size ≤ gb139)); have n7_ := qi_.mk ((by rw [hg]; exact (qq_ (by repeat (first | (with_reducible first | exact HB.out | apply qe_ | apply qa_ | apply qc_ | refine qf_ ?_ GE128.out | refine qf_ ?_ GE129.out | refine qf_ ?_ GE132.out) | exact HB.out))) : w.heap.size ≤ gb139)); have n8_ := qi_.mk ((by rw [hg]; exact Nat.ne_of_lt (blk_lt (g := gb128) (o := .cells #[.slice (some ad138) l0_0.length c0_0] 41 (0, 0)) (by (with_reducible repeat (first | refine qd_ ?_ _ | refine qh_ ?_)); exact BK128.out)) : gb128 ≠ gb139)); have n9_ := qi_.mk ((by rw [hg]; exact Nat.ne_of_gt (blk_lt (g := gb128) (o := .cells #[.slice (some ad138) l0_0.length c0_0] 41 (0, 0)) (by (with_reducible repeat (first | refine qd_ ?_ _ | refine qh_ ?_)); exact BK128.out)) : gb139 ≠ gb128)); have n10_ := qi_.mk ((by rw [hg]; exact Nat.ne_of_lt (blk_lt (g := gb129) (o := .cells #[.int .i64 x130000_1, .int .i64 x130001_1] 26 (0, 0)) (by (with_reducible repeat (first | refine qd_ ?_ _ | refine qh_ ?_)); exact BK129.out)) : gb129 ≠ gb139)); have n11_ := qi_.mk ((by rw [hg]; exact Nat.ne_of_gt (blk_lt (g := gb129) (o := .cells #[.int .i64 x130000_1, .int .i64 x130001_1] 26 (0, 0)) (by (with_reducible repeat (first | refine qd_ ?_ _ | refine qh_ ?_)); exact BK129.out)) : gb139 ≠ gb129)); have n12_ := qi_.mk ((by rw [hg]; exact Nat.ne_of_lt (blk_lt (g := gb132) (o := .cells #[.int .i64 t130, .int .i64 t131] 26 (0, 0)) (by (with_reducible repeat (first | refine qd_ ?_ _ | refine qh_ ?_)); exact BK132.out)) : gb132 ≠ gb139)); have n13_ := qi_.mk ((by rw [hg]; exact Nat.ne_of_gt (blk_lt (g := gb132) (o := .cells #[.int .i64 t130, .int .i64 t131] 26 (0, 0)) (by (with_reducible repeat (first | refine qd_ ?_ _ | refine qh_ ?_)); exact BK132.out)) : gb139 ≠ gb132)); clear HO_8; clear BK128; clear BK129; clear BK132; clear HB; have HO_8 := n0_; have BK128 := n1_; have BK129 := n2_; have BK132 := n3_; have HB := n4_; have BK139 := n5_; have GW139 := n6_; have GE139 := n7_; have NB128_139 := n8_; have NB139_128 := n9_; have NB129_139 := n10_; have NB139_129 := n11_; have NB132_139 := n12_; have NB139_132 := n13_; clear n0_ n1_ n2_ n3_ n4_ n5_ n6_ n7_ n8_ n9_ n10_ n11_ n12_ n13_; clear hb hbox hg; have hnb47 := NB139_128.out; have hnc47 := NB128_139.out; have hnb48 := NB139_129.out; have hnc48 := NB129_139.out; have hnb49 := NB139_132.out; have hnc49 := NB132_139.out; have hcz50_0 : w46.cell? ⟨gb139, 0, none⟩ = some (.int .i64 0) := (qb_ BK139.out 0).trans rfl; have hcz50_1 : w46.cell? ⟨gb139, 1, none⟩ = some (.slice none 0 0) := (qb_ BK139.out 1).trans rfl; have hcz50_2 : w46.cell? ⟨gb139, 2, none⟩ = some (.slice none 0 0) := (qb_ BK139.out 2).trans rfl; have hfz50_0 := qg_ BK139.out 0; have hfz50_1 := qg_ BK139.out 1; have hfz50_2 := qg_ BK139.out 2))
                  have n0_ : qi_ (Kd.R Kd.string 9 (((w46.setCell ⟨gb139, 0, none⟩ (.int .i64 ((rd_T52 l0_0 x27_1).f0))).setCell ⟨gb139, 1, none⟩ (.slice A138_1 ((rd_T52 l0_0 x27_1).f1).length c138_1)).setCell ⟨gb139, 2, none⟩ (.slice A138_2 ((rd_T52 l0_0 x27_1).f2).length c138_2)) w.heap.size (fun _ => True) u8 x8_1) := ⟨by (with_reducible repeat (first | apply Kd.qo_ | apply Kd.qp_)); exact Kd.R_mono (Kd.R_far (p := ⟨gb139, 2, none⟩) (Kd.R_far (p := ⟨gb139, 1, none⟩) (Kd.R_far (p := ⟨gb139, 0, none⟩) (Kd.R_types HO_8.out BK139.out (by decide)) (fun _ hk => hk.2) (.int .i64 ((rd_T52 l0_0 x27_1).f0))) (fun _ hk => hk.2) (.slice A138_1 ((rd_T52 l0_0 x27_1).f1).length c138_1)) (fun _ hk => hk.2) (.slice A138_2 ((rd_T52 l0_0 x27_1).f2).length c138_2)) (fun _ hk => trivial)⟩
                  have n1_ : qi_ ((((w46.setCell ⟨gb139, 0, none⟩ (.int .i64 ((rd_T52 l0_0 x27_1).f0))).setCell ⟨gb139, 1, none⟩ (.slice A138_1 ((rd_T52 l0_0 x27_1).f1).length c138_1)).setCell ⟨gb139, 2, none⟩ (.slice A138_2 ((rd_T52 l0_0 x27_1).f2).length c138_2)).heap[gb128]? = some (.cells #[.slice (some ad138) l0_0.length c0_0] 41 (0, 0))) := ⟨by (with_reducible repeat (first | refine qd_ ?_ _ | refine qh_ ?_)); refine q7_ ?_ NB128_139.out _; (with_reducible repeat (first | refine qd_ ?_ _ | refine qh_ ?_)); refine q7_ ?_ NB128_139.out _; (with_reducible repeat (first | refine qd_ ?_ _ | refine qh_ ?_)); refine q7_ ?_ NB128_139.out _; (with_reducible repeat (first | refine qd_ ?_ _ | refine qh_ ?_)); exact BK128.out⟩
                  have n2_ : qi_ ((((w46.setCell ⟨gb139, 0, none⟩ (.int .i64 ((rd_T52 l0_0 x27_1).f0))).setCell ⟨gb139, 1, none⟩ (.slice A138_1 ((rd_T52 l0_0 x27_1).f1).length c138_1)).setCell ⟨gb139, 2, none⟩ (.slice A138_2 ((rd_T52 l0_0 x27_1).f2).length c138_2)).heap[gb129]? = some (.cells #[.int .i64 x130000_1, .int .i64 x130001_1] 26 (0, 0))) := ⟨by (with_reducible repeat (first | refine qd_ ?_ _ | refine qh_ ?_)); refine q7_ ?_ NB129_139.out _; (with_reducible repeat (first | refine qd_ ?_ _ | refine qh_ ?_)); refine q7_ ?_ NB129_139.out _; (with_reducible repeat (first | refine qd_ ?_ _ | refine qh_ ?_)); refine q7_ ?_ NB129_139.out _; (with_reducible repeat (first | refine qd_ ?_ _ | refine qh_ ?_)); exact BK129.out⟩
                  have n3_ : qi_ ((((w46.setCell ⟨gb139, 0, none⟩ (.int .i64 ((rd_T52 l0_0 x27_1).f0))).setCell ⟨gb139, 1, none⟩ (.slice A138_1 ((rd_T52 l0_0 x27_1).f1).length c138_1)).setCell ⟨gb139, 2, none⟩ (.slice A138_2 ((rd_T52 l0_0 x27_1).f2).length c138_2)).heap[gb132]? = some (.cells #[.int .i64 t130, .int .i64 t131] 26 (0, 0))) := ⟨by (with_reducible repeat (first | refine qd_ ?_ _ | refine qh_ ?_)); refine q7_ ?_ NB132_139.out _; (with_reducible repeat (first | refine qd_ ?_ _ | refine qh_ ?_)); refine q7_ ?_ NB132_139.out _; (with_reducible repeat (first | refine qd_ ?_ _ | refine qh_ ?_)); refine q7_ ?_ NB132_139.out _; (with_reducible repeat (first | refine qd_ ?_ _ | refine qh_ ?_)); exact BK132.out⟩
                  have n4_ : qi_ ((((w46.setCell ⟨gb139, 0, none⟩ (.int .i64 ((rd_T52 l0_0 x27_1).f0))).setCell ⟨gb139, 1, none⟩ (.slice A138_1 ((rd_T52 l0_0 x27_1).f1).length c138_1)).setCell ⟨gb139, 2, none⟩ (.slice A138_2 ((rd_T52 l0_0 x27_1).f2).length c138_2)).heap[gb139]? = some (.cells #[.int .i64 ((rd_T52 l0_0 x27_1).f0), .slice A138_1 ((rd_T52 l0_0 x27_1).f1).length c138_1, .slice A138_2 ((rd_T52 l0_0 x27_1).f2).length c138_2] 52 (0, 0))) := ⟨by (with_reducible repeat (first | refine qd_ ?_ _ | refine qh_ ?_)); refine q6_ (cs := #[.int .i64 ((rd_T52 l0_0 x27_1).f0), .slice A138_1 ((rd_T52 l0_0 x27_1).f1).length c138_1, .slice none 0 0]) ?_ 2 _ rfl; (with_reducible repeat (first | refine qd_ ?_ _ | refine qh_ ?_)); refine q6_ (cs := #[.int .i64 ((rd_T52 l0_0 x27_1).f0), .slice none 0 0, .slice none 0 0]) ?_ 1 _ rfl; (with_reducible repeat (first | refine qd_ ?_ _ | refine qh_ ?_)); refine q6_ (cs := #[.int .i64 0, .slice none 0 0, .slice none 0 0]) ?_ 0 _ rfl; (with_reducible repeat (first | refine qd_ ?_ _ | refine qh_ ?_)); exact BK139.out⟩
                  have n5_ : qi_ (Below w.heap.size w (((w46.setCell ⟨gb139, 0, none⟩ (.int .i64 ((rd_T52 l0_0 x27_1).f0))).setCell ⟨gb139, 1, none⟩ (.slice A138_1 ((rd_T52 l0_0 x27_1).f1).length c138_1)).setCell ⟨gb139, 2, none⟩ (.slice A138_2 ((rd_T52 l0_0 x27_1).f2).length c138_2))) := ⟨by repeat (first | (with_reducible first | exact HB.out | apply qe_ | apply qa_ | apply qc_ | refine qf_ ?_ GE128.out | refine qf_ ?_ GE129.out | refine qf_ ?_ GE132.out | refine qf_ ?_ GE139.out) | exact HB.out)⟩
                  (try clear HO_8)
                  (try clear BK128)
                  (try clear BK129)
                  (try clear BK132)
                  (try clear BK139)
                  (try clear HB)
                  generalize (((w46.setCell ⟨gb139, 0, none⟩ (.int .i64 ((rd_T52 l0_0 x27_1).f0))).setCell ⟨gb139, 1, none⟩ (.slice A138_1 ((rd_T52 l0_0 x27_1).f1).length c138_1)).setCell ⟨gb139, 2, none⟩ (.slice A138_2 ((rd_T52 l0_0 x27_1).f2).length c138_2)) = w51 at n0_ n1_ n2_ n3_ n4_ n5_ ⊢
                  have HO_8 := n0_
                  have BK128 := n1_
                  have BK129 := n2_
                  have BK132 := n3_
                  have BK139 := n4_
                  have HB := n5_
                  clear n0_ n1_ n2_ n3_ n4_ n5_
                  have n0_ := qi_.mk (Kd.qp_ HO_8.out)
                  have n1_ := qi_.mk (qh_ BK128.out)
                  have n2_ := qi_.mk (qh_ BK129.out)
                  have n3_ := qi_.mk (qh_ BK132.out)
                  have n4_ := qi_.mk (qh_ BK139.out)
                  have n5_ := qi_.mk (qc_ HB.out)
                  clear HO_8
                  clear BK128
                  clear BK129
                  clear BK132
                  clear BK139
                  clear HB
                  have HO_8 := n0_
                  have BK128 := n1_
                  have BK129 := n2_
                  have BK132 := n3_
                  have BK139 := n4_
                  have HB := n5_
                  clear n0_ n1_ n2_ n3_ n4_ n5_
                  refine start_ (n := 17) (S := fun w' => w'.cell? ⟨gb139, 0, none⟩ = some (.int .i64 ((rd_T52 l0_0 x27_1).f0)) ∧ w'.cell? ⟨gb139, 1, none⟩ = some (.slice A138_1 ((rd_T52 l0_0 x27_1).f1).length c138_1) ∧ w'.cell? ⟨gb139, 2, none⟩ = some (.slice A138_2 ((rd_T52 l0_0 x27_1).f2).length c138_2)) (ds := []) #[false, false, false, false, false, false, false, false, false, false, false, false, false, false, false, false, false] (by kernel_rfl) rfl rfl ⟨(qb_ BK139.out 0).trans rfl, (qb_ BK139.out 1).trans rfl, (qb_ BK139.out 2).trans rfl⟩ (fun hHeld => ?_); refine with_tabW qy_.tab12 qy_.bits12 (fun HT_ HW_ => ?_)
                  generalize w51.drew = w52 at HO_8 BK128 BK129 BK132 BK139 HB hHeld ⊢
                  refine pure_ (i := 2) (N := some 34) (v := ?_) (a' := ?_) #[false, false, true, false, false, false, false, false, false, false, false, false, false, false, false, false, false] rfl rfl (any_of HT_.out (by kernel_rfl)) (fun _ _ _ h => h) (Or.inl ⟨by rfl, ?_⟩) ?_ ?_
                  rotate_left
                  ·intro w'
                   go_simp
                   with_reducible rfl
                  rotate_left
                  ·simp only [Act.put, List.setIfInBounds_toArray, List.set_cons_zero, List.set_cons_succ, i64_w, i32_w]
                   rfl
                  refine pure_ (i := 3) (N := some 35) (v := ?_) (a' := ?_) #[false, false, true, true, false, false, false, false, false, false, false, false, false, false, false, false, false] rfl rfl (any_of HT_.out (by kernel_rfl)) (fun _ _ _ h => h) (Or.inl ⟨by rfl, ?_⟩) ?_ ?_
                  rotate_left
                  ·intro w'
                   go_simp
                   with_reducible rfl
                  rotate_left
                  ·simp only [Act.put, List.setIfInBounds_toArray, List.set_cons_zero, List.set_cons_succ, i64_w, i32_w]
                   rfl
                  refine take_ (i := 0) (N := some 32) (v := ?_) (a' := ?_) #[true, false, true, true, false, false, false, false, false, false, false, false, false, false, false, false, false] rfl rfl (take_ofW HT_.out HW_.out (by kernel_rfl)) (fun _ _ _ h => h) (Or.inl ⟨by rfl, ?_⟩) hHeld ?_ ?_
                  rotate_left
                  ·rintro w' ⟨s0, s1, s2⟩
                   go_simp
                   with_reducible rfl
                  rotate_left
                  ·simp only [Act.put, List.setIfInBounds_toArray, List.set_cons_zero, List.set_cons_succ, i64_w, i32_w]
                   rfl
                  refine one_ (i := 1) (N := some 33) #[true, true, true, true, false, false, false, false, false, false, false, false, false, false, false, false, false] rfl rfl (one_of HT_.out (by kernel_rfl)) (by decide) (fun K hK => ?_)
                  refine goes_ Try.func32 (by kernel_rfl) rfl #[.agg #[.int .i64 ((rd_T52 l0_0 x27_1).f0), .slice A138_1 ((rd_T52 l0_0 x27_1).f1).length c138_1, .slice A138_2 ((rd_T52 l0_0 x27_1).f2).length c138_2]] (by rfl) rfl rfl (by simp only [List.map_toArray]; first | done | rfl | (simp only [List.length_drop, List.length_take]; rfl)) ?_
                  with_reducible refine (textpatch_End.calls ((rd_T52 l0_0 x27_1).f0) _ _ ((rd_T52 l0_0 x27_1).f1) _ _ ((rd_T52 l0_0 x27_1).f2) t140 _ ?side1 ?side2 ?side3 ?side4 A21.out).mono ?_
                  (case side1 => repeat (first | exact (Kd.C_below HR138_1.out HB.out)))
                  (case side2 => exact HC138_1.out)
                  (case side3 => repeat (first | exact (Kd.C_below HR138_2.out HB.out)))
                  (case side4 => exact HC138_2.out)
                  rintro e w53 ⟨rfl, hb⟩
                  refine ⟨_, rfl, ?_⟩
                  have n0_ := qi_.mk (Kd.R_below (by (with_reducible repeat (first | apply Kd.qo_ | apply Kd.qp_)); exact HO_8.out) hb)
                  have n1_ := qi_.mk (qn_ (g := gb128) (o := .cells #[.slice (some ad138) l0_0.length c0_0] 41 (0, 0)) (by (with_reducible repeat (first | refine qd_ ?_ _ | refine qh_ ?_)); exact BK128.out) hb)
                  have n2_ := qi_.mk (qn_ (g := gb129) (o := .cells #[.int .i64 x130000_1, .int .i64 x130001_1] 26 (0, 0)) (by (with_reducible repeat (first | refine qd_ ?_ _ | refine qh_ ?_)); exact BK129.out) hb)
                  have n3_ := qi_.mk (qn_ (g := gb132) (o := .cells #[.int .i64 t130, .int .i64 t131] 26 (0, 0)) (by (with_reducible repeat (first | refine qd_ ?_ _ | refine qh_ ?_)); exact BK132.out) hb)
                  have n4_ := qi_.mk (qn_ (g := gb139) (o := .cells #[.int .i64 ((rd_T52 l0_0 x27_1).f0), .slice A138_1 ((rd_T52 l0_0 x27_1).f1).length c138_1, .slice A138_2 ((rd_T52 l0_0 x27_1).f2).length c138_2] 52 (0, 0)) (by (with_reducible repeat (first | refine qd_ ?_ _ | refine qh_ ?_)); exact BK139.out) hb)
                  have n5_ := qi_.mk (qr_ (by repeat (first | (with_reducible first | exact HB.out | apply qe_ | apply qa_ | apply qc_ | refine qf_ ?_ GE128.out | refine qf_ ?_ GE129.out | refine qf_ ?_ GE132.out | refine qf_ ?_ GE139.out) | exact HB.out)) hb)
                  clear HO_8
                  clear BK128
                  clear BK129
                  clear BK132
                  clear BK139
                  clear HB
                  have HO_8 := n0_
                  have BK128 := n1_
                  have BK129 := n2_
                  have BK132 := n3_
                  have BK139 := n4_
                  have HB := n5_
                  clear n0_ n1_ n2_ n3_ n4_ n5_
                  (try clear hb)
                  (try clear hb2)
                  (try clear hk)
                  (try clear hi)
                  refine hK.out _ _ ⟨(qb_ BK139.out 0).trans rfl, (qb_ BK139.out 1).trans rfl, (qb_ BK139.out 2).trans rfl⟩ (fun hHeld => ?_)
                  clear hK K
                  refine norm_ (a' := ?_) ?_ ?_
                  rotate_left
                  ·show Act.put _ (some 33) _ = _
                   simp only [Act.put, List.setIfInBounds_toArray, List.set_cons_zero, List.set_cons_succ, i64_w, i32_w]
                   rfl
                  refine pure_ (i := 4) (N := some 36) (v := ?_) (a' := ?_) #[true, true, true, true, true, false, false, false, false, false, false, false, false, false, false, false, false] rfl rfl (any_of HT_.out (by kernel_rfl)) (fun _ _ _ h => h) (Or.inl ⟨by rfl, ?_⟩) ?_ ?_
                  rotate_left
                  ·intro w'
                   go_simp
                   with_reducible rfl
                  rotate_left
                  ·simp only [Act.put, List.setIfInBounds_toArray, List.set_cons_zero, List.set_cons_succ, i64_w, i32_w]
                   rfl
                  refine pure_ (i := 5) (N := some 37) (v := ?_) (a' := ?_) #[true, true, true, true, true, true, false, false, false, false, false, false, false, false, false, false, false] rfl rfl (any_of HT_.out (by kernel_rfl)) (fun _ _ _ h => h) (Or.inl ⟨by rfl, ?_⟩) ?_ ?_
                  rotate_left
                  ·intro w'
                   go_simp
                   with_reducible rfl
                  rotate_left
                  ·simp only [Act.put, List.setIfInBounds_toArray, List.set_cons_zero, List.set_cons_succ, i64_w, i32_w]
                   rfl
                  refine pure_ (i := 6) (N := some 38) (v := ?_) (a' := ?_) #[true, true, true, true, true, true, true, false, false, false, false, false, false, false, false, false, false] rfl rfl (any_of HT_.out (by kernel_rfl)) (fun _ _ _ h => h) (Or.inl ⟨by rfl, ?_⟩) ?_ ?_
                  rotate_left
                  ·intro w'
                   go_simp
                   with_reducible rfl
                  rotate_left
                  ·simp only [Act.put, List.setIfInBounds_toArray, List.set_cons_zero, List.set_cons_succ, i64_w, i32_w]
                   rfl
                  refine pure_ (i := 7) (N := some 39) (v := ?_) (a' := ?_) #[true, true, true, true, true, true, true, true, false, false, false, false, false, false, false, false, false] rfl rfl (any_of HT_.out (by kernel_rfl)) (fun _ _ _ h => h) (Or.inl ⟨by rfl, ?_⟩) ?_ ?_
                  rotate_left
                  ·intro w'
                   go_simp
                   with_reducible rfl
                  rotate_left
                  ·simp only [Act.put, List.setIfInBounds_toArray, List.set_cons_zero, List.set_cons_succ, i64_w, i32_w]
                   rfl
                  refine pure_ (i := 12) (N := some 44) (v := ?_) (a' := ?_) #[true, true, true, true, true, true, true, true, false, false, false, false, true, false, false, false, false] rfl rfl (any_of HT_.out (by kernel_rfl)) (fun _ _ _ h => h) (Or.inl ⟨by rfl, ?_⟩) ?_ ?_
                  rotate_left
                  ·intro w'
                   go_simp
                   with_reducible rfl
                  rotate_left
                  ·simp only [Act.put, List.setIfInBounds_toArray, List.set_cons_zero, List.set_cons_succ, i64_w, i32_w]
                   rfl
                  refine take_ (i := 8) (N := some 40) (v := ?_) (a' := ?_) #[true, true, true, true, true, true, true, true, true, false, false, false, true, false, false, false, false] rfl rfl (take_ofW HT_.out HW_.out (by kernel_rfl)) (fun _ _ _ h => h) (Or.inl ⟨by rfl, ?_⟩) hHeld ?_ ?_
                  rotate_left
                  ·rintro w' ⟨s0, s1, s2⟩
                   go_simp
                   with_reducible rfl
                  rotate_left
                  ·simp only [Act.put, List.setIfInBounds_toArray, List.set_cons_zero, List.set_cons_succ, i64_w, i32_w]
                   rfl
                  refine take_ (i := 9) (N := some 41) (v := ?_) (a' := ?_) #[true, true, true, true, true, true, true, true, true, true, false, false, true, false, false, false, false] rfl rfl (take_ofW HT_.out HW_.out (by kernel_rfl)) (fun _ _ _ h => h) (Or.inl ⟨by rfl, ?_⟩) hHeld ?_ ?_
                  rotate_left
                  ·rintro w' ⟨s0, s1, s2⟩
                   go_simp
                   with_reducible rfl
                  rotate_left
                  ·simp only [Act.put, List.setIfInBounds_toArray, List.set_cons_zero, List.set_cons_succ, i64_w, i32_w]
                   rfl
                  refine take_ (i := 13) (N := some 45) (v := ?_) (a' := ?_) #[true, true, true, true, true, true, true, true, true, true, false, false, true, true, false, false, false] rfl rfl (take_ofW HT_.out HW_.out (by kernel_rfl)) (fun _ _ _ h => h) (Or.inl ⟨by rfl, ?_⟩) hHeld ?_ ?_
                  rotate_left
                  ·rintro w' ⟨s0, s1, s2⟩
                   go_simp
                   with_reducible rfl
                  rotate_left
                  ·simp only [Act.put, List.setIfInBounds_toArray, List.set_cons_zero, List.set_cons_succ, i64_w, i32_w]
                   rfl
                  refine one_ (i := 10) (N := some 42) #[true, true, true, true, true, true, true, true, true, true, true, false, true, true, false, false, false] rfl rfl (one_of HT_.out (by kernel_rfl)) (by decide) (fun K hK => ?_)
                  refine goes_ Try.func32 (by kernel_rfl) rfl #[.agg #[.int .i64 ((rd_T52 l0_0 x27_1).f0), .slice A138_1 ((rd_T52 l0_0 x27_1).f1).length c138_1, .slice A138_2 ((rd_T52 l0_0 x27_1).f2).length c138_2]] (by rfl) rfl rfl (by simp only [List.map_toArray]; first | done | rfl | (simp only [List.length_drop, List.length_take]; rfl)) ?_
                  with_reducible refine (textpatch_End.calls ((rd_T52 l0_0 x27_1).f0) _ _ ((rd_T52 l0_0 x27_1).f1) _ _ ((rd_T52 l0_0 x27_1).f2) t141 _ ?side1 ?side2 ?side3 ?side4 A34.out).mono ?_
                  (case side1 => repeat (first | exact (Kd.C_below HR138_1.out HB.out)))
                  (case side2 => exact HC138_1.out)
                  (case side3 => repeat (first | exact (Kd.C_below HR138_2.out HB.out)))
                  (case side4 => exact HC138_2.out)
                  rintro e w54 ⟨rfl, hb⟩
                  refine ⟨_, rfl, ?_⟩
                  have n0_ := qi_.mk (Kd.R_below (by (with_reducible repeat (first | apply Kd.qo_ | apply Kd.qp_)); exact HO_8.out) hb)
                  have n1_ := qi_.mk (qn_ (g := gb128) (o := .cells #[.slice (some ad138) l0_0.length c0_0] 41 (0, 0)) (by (with_reducible repeat (first | refine qd_ ?_ _ | refine qh_ ?_)); exact BK128.out) hb)
                  have n2_ := qi_.mk (qn_ (g := gb129) (o := .cells #[.int .i64 x130000_1, .int .i64 x130001_1] 26 (0, 0)) (by (with_reducible repeat (first | refine qd_ ?_ _ | refine qh_ ?_)); exact BK129.out) hb)
                  have n3_ := qi_.mk (qn_ (g := gb132) (o := .cells #[.int .i64 t130, .int .i64 t131] 26 (0, 0)) (by (with_reducible repeat (first | refine qd_ ?_ _ | refine qh_ ?_)); exact BK132.out) hb)
                  have n4_ := qi_.mk (qn_ (g := gb139) (o := .cells #[.int .i64 ((rd_T52 l0_0 x27_1).f0), .slice A138_1 ((rd_T52 l0_0 x27_1).f1).length c138_1, .slice A138_2 ((rd_T52 l0_0 x27_1).f2).length c138_2] 52 (0, 0)) (by (with_reducible repeat (first | refine qd_ ?_ _ | refine qh_ ?_)); exact BK139.out) hb)
                  have n5_ := qi_.mk (qr_ (by repeat (first | (with_reducible first | exact HB.out | apply qe_ | apply qa_ | apply qc_ | refine qf_ ?_ GE128.out | refine qf_ ?_ GE129.out | refine qf_ ?_ GE132.out | refine qf_ ?_ GE139.out) | exact HB.out)) hb)
                  clear HO_8
                  clear BK128
                  clear BK129
                  clear BK132
                  clear BK139
                  clear HB
                  have HO_8 := n0_
                  have BK128 := n1_
                  have BK129 := n2_
                  have BK132 := n3_
                  have BK139 := n4_
                  have HB := n5_
                  clear n0_ n1_ n2_ n3_ n4_ n5_
                  (try clear hb)
                  (try clear hb2)
                  (try clear hk)
                  (try clear hi)
                  obtain ⟨i055, hi055, _, hsz55, _⟩ := info_parts info9
                  obtain ⟨A55, hcut55, hA55, hC55⟩ := print_mid_of (P := Try.prog) Value.string (⟨#[]⟩ : ByteArray) 22 9 .i64 .i64 Try.underlying22 hi055 hsz55 A1 c1 l1 ((rd_T52 l0_0 x27_1).f0) t141 (of_decide_eq_true (by assumption)) (by first | omega | exact of_decide_eq_true (by assumption)) (of_decide_eq_true (by assumption)) HC1.out
                  have HR142 := qi_.mk (Kd.C_of_reads (h1 := fun _ => rfl) (hA55 _ (Kd.reads_of_C HR1.out)))
                  have HC142 := qi_.mk hC55
                  clear hA55 hC55 hi055 hsz55
                  refine hK.out _ _ ⟨(qb_ BK139.out 0).trans rfl, (qb_ BK139.out 1).trans rfl, (qb_ BK139.out 2).trans rfl⟩ (fun hHeld => ?_)
                  clear hK K
                  refine norm_ (a' := ?_) ?_ ?_
                  rotate_left
                  ·show Act.put _ (some 42) _ = _
                   simp only [Act.put, List.setIfInBounds_toArray, List.set_cons_zero, List.set_cons_succ, i64_w, i32_w]
                   rfl
                  refine pure_ (i := 11) (N := some 43) (v := ?_) (a' := ?_) #[true, true, true, true, true, true, true, true, true, true, true, true, true, true, false, false, false] rfl rfl (any_of HT_.out (by kernel_rfl)) (fun _ _ _ h => h) (Or.inl ⟨by rfl, ?_⟩) ?_ ?_
                  rotate_left
                  ·intro w'
                   go_simp
                   with_reducible rfl
                  rotate_left
                  ·simp only [Act.put, List.setIfInBounds_toArray, List.set_cons_zero, List.set_cons_succ, i64_w, i32_w]
                   rfl
                  refine one_ (i := 14) (N := some 46) #[true, true, true, true, true, true, true, true, true, true, true, true, true, true, true, false, false] rfl rfl (one_of HT_.out (by kernel_rfl)) (by decide) (fun K hK => ?_)
                  refine goes_ Try.func33 (by kernel_rfl) rfl #[.slice A55 ((l1.take (t141 : Int).toNat).drop (((rd_T52 l0_0 x27_1).f0) : Int).toNat).length (c1 - ((rd_T52 l0_0 x27_1).f0).toNat), .slice A138_1 ((rd_T52 l0_0 x27_1).f1).length c138_1] (by rfl) rfl rfl (by (try simp only [List.map_toArray, List.map_cons, List.map_nil]); first | done | (rw [show ((l1.take (t141 : Int).toNat).drop (((rd_T52 l0_0 x27_1).f0) : Int).toNat).length = (t141.toNat - ((rd_T52 l0_0 x27_1).f0).toNat) from (by rw [List.length_drop, List.length_take]; have h_ : (t141 : Int) ≤ (l1.length : Int) := of_decide_eq_true (by assumption); omega)] <;> rfl) | rfl | (simp only [List.length_drop, List.length_take]; rfl)) ?_
                  with_reducible refine (q0_.calls k1 _ _ ((l1.take (t141 : Int).toNat).drop (((rd_T52 l0_0 x27_1).f0) : Int).toNat) _ _ ((rd_T52 l0_0 x27_1).f1) true _ ?side1 ?side2 ?side3 ?side4 A38.out).mono ?_
                  (case side1 => repeat (first | exact (Kd.C_below HR142.out HB.out)))
                  (case side2 => exact HC142.out)
                  (case side3 => repeat (first | exact (Kd.C_below HR138_1.out HB.out)))
                  (case side4 => exact HC138_1.out)
                  rintro e w' ⟨rfl, ⟨nd, rfl⟩⟩
                  refine ⟨_, rfl, ?_⟩
                  refine hK.out _ _ ⟨(qb_ BK139.out 0).trans rfl, (qb_ BK139.out 1).trans rfl, (qb_ BK139.out 2).trans rfl⟩ (fun hHeld => ?_)
                  clear hK K
                  refine norm_ (a' := ?_) ?_ ?_
                  rotate_left
                  ·show Act.put _ (some 46) _ = _
                   simp only [Act.put, List.setIfInBounds_toArray, List.set_cons_zero, List.set_cons_succ, i64_w, i32_w]
                   rfl
                  refine pure_ (i := 15) (N := some 47) (v := ?_) (a' := ?_) #[true, true, true, true, true, true, true, true, true, true, true, true, true, true, true, true, false] rfl rfl (any_of HT_.out (by kernel_rfl)) (fun _ _ _ h => h) (Or.inl ⟨by rfl, ?_⟩) ?_ ?_
                  rotate_left
                  ·intro w'
                   go_simp
                   with_reducible rfl
                  rotate_left
                  ·simp only [Act.put, List.setIfInBounds_toArray, List.set_cons_zero, List.set_cons_succ, i64_w, i32_w]
                   rfl
                  refine pure_ (i := 16) (N := some 48) (v := ?_) (a' := ?_) #[true, true, true, true, true, true, true, true, true, true, true, true, true, true, true, true, true] rfl rfl (any_of HT_.out (by kernel_rfl)) (fun _ _ _ h => h) (Or.inl ⟨by rfl, ?_⟩) ?_ ?_
                  rotate_left
                  ·intro w'
                   go_simp
                   with_reducible rfl
                  rotate_left
                  ·simp only [Act.put, List.setIfInBounds_toArray, List.set_cons_zero, List.set_cons_succ, i64_w, i32_w]
                   rfl
                  refine done_ (done_of HT_.out (by kernel_rfl)) ?_
                  try go_wp2
                  (try (rw [drewN_self w54]; generalize hq_ : World.drewN w54 _ = w54; have n0_ : qi_ (Kd.R Kd.string 9 w54 w.heap.size (fun _ => True) u8 x8_1) := ⟨by rw [← hq_]; exact (by (with_reducible repeat (first | apply Kd.qo_ | apply Kd.qp_)); exact HO_8.out)⟩; have n1_ : qi_ (w54.heap[gb128]? = some (.cells #[.slice (some ad138) l0_0.length c0_0] 41 (0, 0))) := ⟨by rw [← hq_]; exact (by (with_reducible repeat (first | refine qd_ ?_ _ | refine qh_ ?_)); exact BK128.out)⟩; have n2_ : qi_ (w54.heap[gb129]? = some (.cells #[.int .i64 x130000_1, .int .i64 x130001_1] 26 (0, 0))) := ⟨by rw [← hq_]; exact (by (with_reducible repeat (first | refine qd_ ?_ _ | refine qh_ ?_)); exact BK129.out)⟩; have n3_ : qi_ (w54.heap[gb132]? = some (.cells #[.int .i64 t130, .int .i64 t131] 26 (0, 0))) := ⟨by rw [← hq_]; exact (by (with_reducible repeat (first | refine qd_ ?_ _ | refine qh_ ?_)); exact BK132.out)⟩; have n4_ : qi_ (w54.heap[gb139]? = some (.cells #[.int .i64 ((rd_T52 l0_0 x27_1).f0), .slice A138_1 ((rd_T52 l0_0 x27_1).f1).length c138_1, .slice A138_2 ((rd_T52 l0_0 x27_1).f2).length c138_2] 52 (0, 0))) := ⟨by rw [← hq_]; exact (by (with_reducible repeat (first | refine qd_ ?_ _ | refine qh_ ?_)); exact BK139.out)⟩; have n5_ : qi_ (Below w.heap.size w w54) := ⟨by rw [← hq_]; exact (by repeat (first | (with_reducible first | exact HB.out | apply qe_ | apply qa_ | apply qc_ | refine qf_ ?_ GE128.out | refine qf_ ?_ GE129.out | refine qf_ ?_ GE132.out | refine qf_ ?_ GE139.out) | exact HB.out))⟩; clear HO_8 BK128 BK129 BK132 BK139 HB hq_; have HO_8 := n0_; have BK128 := n1_; have BK129 := n2_; have BK132 := n3_; have BK139 := n4_; have HB := n5_; clear n0_ n1_ n2_ n3_ n4_ n5_))
                  have n0_ := qi_.mk (Kd.qp_ HO_8.out)
                  have n1_ := qi_.mk (qh_ BK128.out)
                  have n2_ := qi_.mk (qh_ BK129.out)
                  have n3_ := qi_.mk (qh_ BK132.out)
                  have n4_ := qi_.mk (qh_ BK139.out)
                  have n5_ := qi_.mk (qc_ HB.out)
                  clear HO_8
                  clear BK128
                  clear BK129
                  clear BK132
                  clear BK139
                  clear HB
                  have HO_8 := n0_
                  have BK128 := n1_
                  have BK129 := n2_
                  have BK132 := n3_
                  have BK139 := n4_
                  have HB := n5_
                  clear n0_ n1_ n2_ n3_ n4_ n5_
                  obtain ⟨i057, hi057, _, hsz57, _⟩ := info_parts info9
                  obtain ⟨A57, hcut57, hA57, hC57⟩ := print_mid_of (P := Try.prog) Value.string (⟨#[]⟩ : ByteArray) 22 9 .i64 .i64 Try.underlying22 hi057 hsz57 A1 c1 l1 x9_1 ((rd_T52 l0_0 x27_1).f0) (of_decide_eq_true (by assumption)) (by first | omega | exact of_decide_eq_true (by assumption)) (of_decide_eq_true (by assumption)) HC1.out
                  have HR144 := qi_.mk (Kd.C_of_reads (h1 := fun _ => rfl) (hA57 _ (Kd.reads_of_C HR1.out)))
                  have HC144 := qi_.mk hC57
                  clear hA57 hC57 hi057 hsz57
                  refine start_ (n := 11) (S := fun w' => w'.cell? ⟨gb139, 0, none⟩ = some (.int .i64 ((rd_T52 l0_0 x27_1).f0)) ∧ w'.cell? ⟨gb139, 1, none⟩ = some (.slice A138_1 ((rd_T52 l0_0 x27_1).f1).length c138_1) ∧ w'.cell? ⟨gb139, 2, none⟩ = some (.slice A138_2 ((rd_T52 l0_0 x27_1).f2).length c138_2)) (ds := []) #[false, false, false, false, false, false, false, false, false, false, false] (by kernel_rfl) rfl rfl ⟨(qb_ BK139.out 0).trans rfl, (qb_ BK139.out 1).trans rfl, (qb_ BK139.out 2).trans rfl⟩ (fun hHeld => ?_); refine with_tabW qy_.tab14 qy_.bits14 (fun HT_ HW_ => ?_)
                  generalize w54.drew = w56 at HO_8 BK128 BK129 BK132 BK139 HB HR144 hHeld ⊢
                  refine pure_ (i := 0) (N := some 51) (v := ?_) (a' := ?_) #[true, false, false, false, false, false, false, false, false, false, false] rfl rfl (any_of HT_.out (by kernel_rfl)) (fun _ _ _ h => h) (Or.inl ⟨by rfl, ?_⟩) ?_ ?_
                  rotate_left
                  ·intro w'
                   go_simp
                   with_reducible rfl
                  rotate_left
                  ·simp only [Act.put, List.setIfInBounds_toArray, List.set_cons_zero, List.set_cons_succ, i64_w, i32_w]
                   rfl
                  refine pure_ (i := 1) (N := some 52) (v := ?_) (a' := ?_) #[true, true, false, false, false, false, false, false, false, false, false] rfl rfl (any_of HT_.out (by kernel_rfl)) (fun _ _ _ h => h) (Or.inl ⟨by rfl, ?_⟩) ?_ ?_
                  rotate_left
                  ·intro w'
                   go_simp
                   with_reducible rfl
                  rotate_left
                  ·simp only [Act.put, List.setIfInBounds_toArray, List.set_cons_zero, List.set_cons_succ, i64_w, i32_w]
                   rfl
                  refine pure_ (i := 2) (N := some 53) (v := ?_) (a' := ?_) #[true, true, true, false, false, false, false, false, false, false, false] rfl rfl (any_of HT_.out (by kernel_rfl)) (fun _ _ _ h => h) (Or.inl ⟨by rfl, ?_⟩) ?_ ?_
                  rotate_left
                  ·intro w'
                   go_simp
                   with_reducible rfl
                  rotate_left
                  ·simp only [Act.put, List.setIfInBounds_toArray, List.set_cons_zero, List.set_cons_succ, i64_w, i32_w]
                   rfl
                  refine pure_ (i := 3) (N := some 54) (v := ?_) (a' := ?_) #[true, true, true, true, false, false, false, false, false, false, false] rfl rfl (any_of HT_.out (by kernel_rfl)) (fun _ _ _ h => h) (Or.inl ⟨by rfl, ?_⟩) ?_ ?_
                  rotate_left
                  ·intro w'
                   go_simp
                   with_reducible rfl
                  rotate_left
                  ·simp only [Act.put, List.setIfInBounds_toArray, List.set_cons_zero, List.set_cons_succ, i64_w, i32_w]
                   rfl
                  refine pure_ (i := 7) (N := some 58) (v := ?_) (a' := ?_) #[true, true, true, true, false, false, false, true, false, false, false] rfl rfl (any_of HT_.out (by kernel_rfl)) (fun _ _ _ h => h) (Or.inl ⟨by rfl, ?_⟩) ?_ ?_
                  rotate_left
                  ·intro w'
                   go_simp
                   with_reducible rfl
                  rotate_left
                  ·simp only [Act.put, List.setIfInBounds_toArray, List.set_cons_zero, List.set_cons_succ, i64_w, i32_w]
                   rfl
                  refine take_ (i := 4) (N := some 55) (v := ?_) (a' := ?_) #[true, true, true, true, true, false, false, true, false, false, false] rfl rfl (take_ofW HT_.out HW_.out (by kernel_rfl)) (fun _ _ _ h => h) (Or.inl ⟨by rfl, ?_⟩) hHeld ?_ ?_
                  rotate_left
                  ·rintro w' ⟨s0, s1, s2⟩
                   go_simp
                   with_reducible rfl
                  rotate_left
                  ·simp only [Act.put, List.setIfInBounds_toArray, List.set_cons_zero, List.set_cons_succ, i64_w, i32_w]
                   rfl
                  refine pure_ (i := 5) (N := some 56) (v := ?_) (a' := ?_) #[true, true, true, true, true, true, false, true, false, false, false] rfl rfl (any_of HT_.out (by kernel_rfl)) (fun _ _ _ h => h) (Or.inl ⟨by rfl, ?_⟩) ?_ ?_
                  rotate_left
                  ·intro w'
                   go_simp
                   with_reducible rfl
                  rotate_left
                  ·simp only [Act.put, List.setIfInBounds_toArray, List.set_cons_zero, List.set_cons_succ, i64_w, i32_w]
                   rfl
                  refine take_ (i := 8) (N := some 59) (v := ?_) (a' := ?_) #[true, true, true, true, true, true, false, true, true, false, false] rfl rfl (take_ofW HT_.out HW_.out (by kernel_rfl)) (fun _ _ _ h => h) (Or.inl ⟨by rfl, ?_⟩) hHeld ?_ ?_
                  rotate_left
                  ·rintro w' ⟨s0, s1, s2⟩
                   go_simp
                   with_reducible rfl
                  rotate_left
                  ·simp only [Act.put, List.setIfInBounds_toArray, List.set_cons_zero, List.set_cons_succ, i64_w, i32_w]
                   rfl
                  refine one_ (i := 6) (N := some 57) #[true, true, true, true, true, true, true, true, true, false, false] rfl rfl (one_of HT_.out (by kernel_rfl)) (by decide) (fun K hK => ?_)
                  refine Kd.R_append_rows_step Kd.string (w0 := w) w.heap.size (by rfl) (.tmp 51) (.tmp 56) 22 9 (.string ⟨#[]⟩) 16 rfl Try.underlying22 info9 rfl (by decide) (by omega) u8 x8_1 ((l1.take (((rd_T52 l0_0 x27_1).f0) : Int).toNat).drop (x9_1 : Int).toNat) _ _ _ (fun _ => True) (fun _ => False) rfl rfl ?aO ?aR (fun _ _ h => h) (fun _ h => h.elim) ?aF ?aB ?aS ?aL ?_
                  (case aR => first | (rw [← show ((l1.take (((rd_T52 l0_0 x27_1).f0) : Int).toNat).drop (x9_1 : Int).toNat).length = (((rd_T52 l0_0 x27_1).f0).toNat - x9_1.toNat) from (by rw [List.length_drop, List.length_take]; have h_ : (((rd_T52 l0_0 x27_1).f0) : Int) ≤ (l1.length : Int) := of_decide_eq_true (by assumption); omega)]; repeat (first | exact (Kd.C_below HR144.out HB.out))) | (repeat (first | exact (Kd.C_below HR144.out HB.out))))
                  (case aB => exact (by repeat (first | (with_reducible first | exact HB.out | apply qe_ | apply qa_ | apply qc_ | refine qf_ ?_ GE128.out | refine qf_ ?_ GE129.out | refine qf_ ?_ GE132.out | refine qf_ ?_ GE139.out) | exact HB.out)))
                  (case aF => exact (fun _ _ => trivial))
                  (case aO => exact (by (with_reducible repeat (first | apply Kd.qo_ | apply Kd.qp_)); exact HO_8.out))
                  (case aS => exact (qq_ (by repeat (first | (with_reducible first | exact HB.out | apply qe_ | apply qa_ | apply qc_ | refine qf_ ?_ GE128.out | refine qf_ ?_ GE129.out | refine qf_ ?_ GE132.out | refine qf_ ?_ GE139.out) | exact HB.out))))
                  (case aL => have := LMc43.out; have hlx_ := (show ((l1.take (((rd_T52 l0_0 x27_1).f0) : Int).toNat).drop (x9_1 : Int).toNat).length = (((rd_T52 l0_0 x27_1).f0).toNat - x9_1.toNat) from (by rw [List.length_drop, List.length_take]; have h_ : (((rd_T52 l0_0 x27_1).f0) : Int) ≤ (l1.length : Int) := of_decide_eq_true (by assumption); omega)); omega)
                  intro v146 w58 ho hb hg hat
                  rw [← Ny145.out] at ho
                  have n0_ := qi_.mk (blk_grown (g := gb128) (o := .cells #[.slice (some ad138) l0_0.length c0_0] 41 (0, 0)) (by (with_reducible repeat (first | refine qd_ ?_ _ | refine qh_ ?_)); exact BK128.out) hg (Kd.R_ne HO_8.out BK128.out (by decide)))
                  have n1_ := qi_.mk (blk_grown (g := gb129) (o := .cells #[.int .i64 x130000_1, .int .i64 x130001_1] 26 (0, 0)) (by (with_reducible repeat (first | refine qd_ ?_ _ | refine qh_ ?_)); exact BK129.out) hg (Kd.R_ne HO_8.out BK129.out (by decide)))
                  have n2_ := qi_.mk (blk_grown (g := gb132) (o := .cells #[.int .i64 t130, .int .i64 t131] 26 (0, 0)) (by (with_reducible repeat (first | refine qd_ ?_ _ | refine qh_ ?_)); exact BK132.out) hg (Kd.R_ne HO_8.out BK132.out (by decide)))
                  have n3_ := qi_.mk (blk_grown (g := gb139) (o := .cells #[.int .i64 ((rd_T52 l0_0 x27_1).f0), .slice A138_1 ((rd_T52 l0_0 x27_1).f1).length c138_1, .slice A138_2 ((rd_T52 l0_0 x27_1).f2).length c138_2] 52 (0, 0)) (by (with_reducible repeat (first | refine qd_ ?_ _ | refine qh_ ?_)); exact BK139.out) hg (Kd.R_ne HO_8.out BK139.out (by decide)))
                  have n4_ := qi_.mk (hb)
                  have n5_ := qi_.mk (ho)
                  clear BK128
                  clear BK129
                  clear BK132
                  clear BK139
                  clear HB
                  clear HO_8
                  have BK128 := n0_
                  have BK129 := n1_
                  have BK132 := n2_
                  have BK139 := n3_
                  have HB := n4_
                  have HO147 := n5_
                  clear n0_ n1_ n2_ n3_ n4_ n5_
                  clear ho hb hg hat
                  refine hK.out _ _ ⟨(qb_ BK139.out 0).trans rfl, (qb_ BK139.out 1).trans rfl, (qb_ BK139.out 2).trans rfl⟩ (fun hHeld => ?_)
                  clear hK K
                  refine norm_ (a' := ?_) ?_ ?_
                  rotate_left
                  ·show Act.put _ (some 57) _ = _
                   simp only [Act.put, List.setIfInBounds_toArray, List.set_cons_zero, List.set_cons_succ, i64_w, i32_w]
                   rfl
                  refine one_ (i := 9) (N := some 60) #[true, true, true, true, true, true, true, true, true, true, false] rfl rfl (one_of HT_.out (by kernel_rfl)) (by decide) (fun K hK => ?_)
                  refine Kd.R_append_rows_step Kd.string (w0 := w) w.heap.size (by rfl) (.tmp 57) (.tmp 59) 22 9 (.string ⟨#[]⟩) 16 rfl Try.underlying22 info9 rfl (by decide) (by omega) v146 y145 ((rd_T52 l0_0 x27_1).f2) _ _ _ (fun _ => True) (fun _ => False) rfl rfl ?aO ?aR (fun _ _ h => h) (fun _ h => h.elim) ?aF ?aB ?aS ?aL ?_
                  (case aR => repeat (first | exact (Kd.C_below HR138_2.out HB.out)))
                  (case aB => exact (by repeat (first | (with_reducible first | exact HB.out | apply qe_ | apply qa_ | apply qc_ | refine qf_ ?_ GE128.out | refine qf_ ?_ GE129.out | refine qf_ ?_ GE132.out | refine qf_ ?_ GE139.out) | exact HB.out)))
                  (case aF => exact (fun _ _ => trivial))
                  (case aO => exact (by (with_reducible repeat (first | apply Kd.qo_ | apply Kd.qp_)); exact HO147.out))
                  (case aS => exact (qq_ (by repeat (first | (with_reducible first | exact HB.out | apply qe_ | apply qa_ | apply qc_ | refine qf_ ?_ GE128.out | refine qf_ ?_ GE129.out | refine qf_ ?_ GE132.out | refine qf_ ?_ GE139.out) | exact HB.out))))
                  (case aL => have := LMc44.out; omega)
                  intro v149 w59 ho hb hg hat
                  rw [← Ny148.out] at ho
                  have n0_ := qi_.mk (blk_grown (g := gb128) (o := .cells #[.slice (some ad138) l0_0.length c0_0] 41 (0, 0)) (by (with_reducible repeat (first | refine qd_ ?_ _ | refine qh_ ?_)); exact BK128.out) hg (Kd.R_ne HO147.out BK128.out (by decide)))
                  have n1_ := qi_.mk (blk_grown (g := gb129) (o := .cells #[.int .i64 x130000_1, .int .i64 x130001_1] 26 (0, 0)) (by (with_reducible repeat (first | refine qd_ ?_ _ | refine qh_ ?_)); exact BK129.out) hg (Kd.R_ne HO147.out BK129.out (by decide)))
                  have n2_ := qi_.mk (blk_grown (g := gb132) (o := .cells #[.int .i64 t130, .int .i64 t131] 26 (0, 0)) (by (with_reducible repeat (first | refine qd_ ?_ _ | refine qh_ ?_)); exact BK132.out) hg (Kd.R_ne HO147.out BK132.out (by decide)))
                  have n3_ := qi_.mk (blk_grown (g := gb139) (o := .cells #[.int .i64 ((rd_T52 l0_0 x27_1).f0), .slice A138_1 ((rd_T52 l0_0 x27_1).f1).length c138_1, .slice A138_2 ((rd_T52 l0_0 x27_1).f2).length c138_2] 52 (0, 0)) (by (with_reducible repeat (first | refine qd_ ?_ _ | refine qh_ ?_)); exact BK139.out) hg (Kd.R_ne HO147.out BK139.out (by decide)))
                  have n4_ := qi_.mk (hb)
                  have n5_ := qi_.mk (ho)
                  clear BK128
                  clear BK129
                  clear BK132
                  clear BK139
                  clear HB
                  clear HO147
                  have BK128 := n0_
                  have BK129 := n1_
                  have BK132 := n2_
                  have BK139 := n3_
                  have HB := n4_
                  have HO150 := n5_
                  clear n0_ n1_ n2_ n3_ n4_ n5_
                  clear ho hb hg hat
                  refine hK.out _ _ ⟨(qb_ BK139.out 0).trans rfl, (qb_ BK139.out 1).trans rfl, (qb_ BK139.out 2).trans rfl⟩ (fun hHeld => ?_)
                  clear hK K
                  refine norm_ (a' := ?_) ?_ ?_
                  rotate_left
                  ·show Act.put _ (some 60) _ = _
                   simp only [Act.put, List.setIfInBounds_toArray, List.set_cons_zero, List.set_cons_succ, i64_w, i32_w]
                   rfl
                  refine pure_ (i := 10) (N := some 8) (v := ?_) (a' := ?_) #[true, true, true, true, true, true, true, true, true, true, true] rfl rfl (any_of HT_.out (by kernel_rfl)) (fun _ _ _ h => h) (Or.inl ⟨by rfl, ?_⟩) ?_ ?_
                  rotate_left
                  ·intro w'
                   go_simp
                   with_reducible rfl
                  rotate_left
                  ·simp only [Act.put, List.setIfInBounds_toArray, List.set_cons_zero, List.set_cons_succ, i64_w, i32_w]
                   rfl
                  refine done_ (done_of HT_.out (by kernel_rfl)) ?_
                  have hcz60_0 : w59.cell? ⟨gb139, 0, none⟩ = some (.int .i64 ((rd_T52 l0_0 x27_1).f0)) := (qb_ BK139.out 0).trans rfl
                  have hcz60_1 : w59.cell? ⟨gb139, 1, none⟩ = some (.slice A138_1 ((rd_T52 l0_0 x27_1).f1).length c138_1) := (qb_ BK139.out 1).trans rfl
                  have hcz60_2 : w59.cell? ⟨gb139, 2, none⟩ = some (.slice A138_2 ((rd_T52 l0_0 x27_1).f2).length c138_2) := (qb_ BK139.out 2).trans rfl
                  have hfz60_0 := qg_ BK139.out 0
                  have hfz60_1 := qg_ BK139.out 1
                  have hfz60_2 := qg_ BK139.out 2
                  try go_wp2_with (first | ((with_reducible refine q2_ (f := 32) rfl ?_); refine goesL_ (some 62) rfl rfl Try.func32 (by kernel_rfl) rfl #[.agg #[.int .i64 ((rd_T52 l0_0 x27_1).f0), .slice A138_1 ((rd_T52 l0_0 x27_1).f1).length c138_1, .slice A138_2 ((rd_T52 l0_0 x27_1).f2).length c138_2]] rfl (by simp only [List.map_toArray]; first | done | rfl | (simp only [List.length_drop, List.length_take]; rfl)) ?_; (with_reducible refine (textpatch_End.calls ((rd_T52 l0_0 x27_1).f0) _ _ ((rd_T52 l0_0 x27_1).f1) _ _ ((rd_T52 l0_0 x27_1).f2) t151 _ ?side1 ?side2 ?side3 ?side4 A45.out).mono ?_); (case side1 => repeat (first | exact (Kd.C_below HR138_1.out HB.out))); (case side2 => exact HC138_1.out); (case side3 => repeat (first | exact (Kd.C_below HR138_2.out HB.out))); (case side4 => exact HC138_2.out); rintro e w61 ⟨rfl, hb⟩; refine ⟨_, rfl, ?_⟩; have n0_ := qi_.mk (Kd.R_below (by (with_reducible repeat (first | apply Kd.qo_ | apply Kd.qp_)); exact HO150.out) hb); have n1_ := qi_.mk (qn_ (g := gb128) (o := .cells #[.slice (some ad138) l0_0.length c0_0] 41 (0, 0)) (by (with_reducible repeat (first | refine qd_ ?_ _ | refine qh_ ?_)); exact BK128.out) hb); have n2_ := qi_.mk (qn_ (g := gb129) (o := .cells #[.int .i64 x130000_1, .int .i64 x130001_1] 26 (0, 0)) (by (with_reducible repeat (first | refine qd_ ?_ _ | refine qh_ ?_)); exact BK129.out) hb); have n3_ := qi_.mk (qn_ (g := gb132) (o := .cells #[.int .i64 t130, .int .i64 t131] 26 (0, 0)) (by (with_reducible repeat (first | refine qd_ ?_ _ | refine qh_ ?_)); exact BK132.out) hb); have n4_ := qi_.mk (qn_ (g := gb139) (o := .cells #[.int .i64 ((rd_T52 l0_0 x27_1).f0), .slice A138_1 ((rd_T52 l0_0 x27_1).f1).length c138_1, .slice A138_2 ((rd_T52 l0_0 x27_1).f2).length c138_2] 52 (0, 0)) (by (with_reducible repeat (first | refine qd_ ?_ _ | refine qh_ ?_)); exact BK139.out) hb); have n5_ := qi_.mk (qr_ (by repeat (first | (with_reducible first | exact HB.out | apply qe_ | apply qa_ | apply qc_ | refine qf_ ?_ GE128.out | refine qf_ ?_ GE129.out | refine qf_ ?_ GE132.out | refine qf_ ?_ GE139.out) | exact HB.out)) hb); clear HO150; clear BK128; clear BK129; clear BK132; clear BK139; clear HB; have HO150 := n0_; have BK128 := n1_; have BK129 := n2_; have BK132 := n3_; have BK139 := n4_; have HB := n5_; clear n0_ n1_ n2_ n3_ n4_ n5_; (try clear hb)))
                  go_roundg k1
                  case measure => have := HK1.out; omega
                  case rel => exact ⟨(y148), (t151), (wrap64 (x27_1 + 1)), (x130000_1), (x130001_1), (by first | rfl | (simp; done) | (simp [*]; done)), (by first | rfl | (simp; done) | (simp [*]; done)), H', ⟨by have := HK1.out; omega⟩, ⟨by (with_reducible repeat (first | apply Kd.qo_ | apply Kd.qp_)); exact HO150.out⟩, ⟨by (with_reducible repeat (first | refine qd_ ?_ _ | refine qh_ ?_)); exact BK128.out⟩, ⟨by (with_reducible repeat (first | refine qd_ ?_ _ | refine qh_ ?_)); exact BK129.out⟩, ⟨by (with_reducible repeat (first | refine qd_ ?_ _ | refine qh_ ?_)); exact BK132.out⟩, ⟨by repeat (first | (with_reducible first | exact HB.out | apply qe_ | apply qa_ | apply qc_ | refine qf_ ?_ GE128.out | refine qf_ ?_ GE129.out | refine qf_ ?_ GE132.out | refine qf_ ?_ GE139.out) | exact HB.out)⟩⟩
                 ·rw [if_neg c44] at H
                  exact absurd H (by simp)
                ·rw [if_neg c43] at H
                 exact absurd H (by simp)
               ·rw [if_neg c42] at H
                exact absurd H (by simp)
              ·rw [if_neg c41] at H
               exact absurd H (by simp)
             ·rw [if_neg c40] at H
              exact absurd H (by simp)
            ·replace c39 := Bool.eq_false_iff.mpr c39
             subst c39
             have H1 : (some (([] : List ByteArray), 19, x27_1)) = some (r1, r2, r3) := by rw [if_neg (show ¬ (false = true) by decide)] at H; exact H
             clear H
             have H := H1
             clear H1
             simp only [Option.some.injEq, Prod.mk.injEq] at H
             obtain ⟨rfl, rfl, rfl⟩ := H
             have p138 : 0 ≤ (x27_1 : Int) := of_decide_eq_true (by assumption)
             have q138 : x27_1 < (l0_0.length : Int) := of_decide_eq_true (by assumption)
             obtain ⟨ad138, A138_1, c138_1, A138_2, c138_2, e138, hx138_0, hx138_1, hx138_2, hl138_1, hi138_1, hl138_2, hi138_2⟩ := at_T52 HR0_0.out x27_1 p138 q138
             cases e138
             replace hx138_0 := (HB.out.cell (World.block_lt_of_cell? w _ hx138_0)).trans hx138_0
             replace hx138_1 := (HB.out.cell (World.block_lt_of_cell? w _ hx138_1)).trans hx138_1
             replace hx138_2 := (HB.out.cell (World.block_lt_of_cell? w _ hx138_2)).trans hx138_2
             have HR138_1 := qi_.mk hi138_1
             have HC138_1 := qi_.mk hl138_1
             clear hi138_1 hl138_1
             have HR138_2 := qi_.mk hi138_2
             have HC138_2 := qi_.mk hl138_2
             clear hi138_2 hl138_2
             replace p138 := eq_true p138
             replace q138 := eq_true q138
             try go_wp2_with (first | ((with_reducible refine gate_dst (N := 11) rfl ?_); refine q1_ ?hg (N := 11) ?hd (cs := #[.int .i64 0, .slice none 0 0, .slice none 0 0]) (t := 52) ?hr ?_; (case hd => rfl); (case hg => rfl); (case hr => first | (go_simp; done) | (go_simp; rfl)); intro gb139 hg w62 hbox hb; have n0_ := qi_.mk (Kd.R_below (by (with_reducible repeat (first | apply Kd.qo_ | apply Kd.qp_)); exact HO_8.out) hb); have n1_ := qi_.mk (qn_ (g := gb128) (o := .cells #[.slice (some ad138) l0_0.length c0_0] 41 (0, 0)) (by (with_reducible repeat (first | refine qd_ ?_ _ | refine qh_ ?_)); exact BK128.out) hb); have n2_ := qi_.mk (qn_ (g := gb129) (o := .cells #[.int .i64 x130000_1, .int .i64 x130001_1] 26 (0, 0)) (by (with_reducible repeat (first | refine qd_ ?_ _ | refine qh_ ?_)); exact BK129.out) hb); have n3_ := qi_.mk (qn_ (g := gb132) (o := .cells #[.int .i64 t130, .int .i64 t131] 26 (0, 0)) (by (with_reducible repeat (first | refine qd_ ?_ _ | refine qh_ ?_)); exact BK132.out) hb); have n4_ := qi_.mk (qr_ (by repeat (first | (with_reducible first | exact HB.out | apply qe_ | apply qa_ | apply qc_ | refine qf_ ?_ GE128.out | refine qf_ ?_ GE129.out | refine qf_ ?_ GE132.out) | exact HB.out)) hb); have n5_ := qi_.mk (hbox); have n6_ := qi_.mk ((by rw [hg]; exact (qq_ (by repeat (first | (with_reducible first | exact HB.out | apply qe_ | apply qa_ | apply qc_ | refine qf_ ?_ GE128.out | refine qf_ ?_ GE129.out | refine qf_ ?_ GE132.out) | exact HB.out))) : w.heap.size ≤ gb139)); have n7_ := qi_.mk ((by rw [hg]; exact (qq_ (by repeat (first | (with_reducible first | exact HB.out | apply qe_ | apply qa_ | apply qc_ | refine qf_ ?_ GE128.out | refine qf_ ?_ GE129.out | refine qf_ ?_ GE132.out) | exact HB.out))) : w.heap.size ≤ gb139)); have n8_ := qi_.mk ((by rw [hg]; exact Nat.ne_of_lt (blk_lt (g := gb128) (o := .cells #[.slice (some ad138) l0_0.length c0_0] 41 (0, 0)) (by (with_reducible repeat (first | refine qd_ ?_ _ | refine qh_ ?_)); exact BK128.out)) : gb128 ≠ gb139)); have n9_ := qi_.mk ((by rw [hg]; exact Nat.ne_of_gt (blk_lt (g := gb128) (o := .cells #[.slice (some ad138) l0_0.length c0_0] 41 (0, 0)) (by (with_reducible repeat (first | refine qd_ ?_ _ | refine qh_ ?_)); exact BK128.out)) : gb139 ≠ gb128)); have n10_ := qi_.mk ((by rw [hg]; exact Nat.ne_of_lt (blk_lt (g := gb129) (o := .cells #[.int .i64 x130000_1, .int .i64 x130001_1] 26 (0, 0)) (by (with_reducible repeat (first | refine qd_ ?_ _ | refine qh_ ?_)); exact BK129.out)) : gb129 ≠ gb139)); have n11_ := qi_.mk ((by rw [hg]; exact Nat.ne_of_gt (blk_lt (g := gb129) (o := .cells #[.int .i64 x130000_1, .int .i64 x130001_1] 26 (0, 0)) (by (with_reducible repeat (first | refine qd_ ?_ _ | refine qh_ ?_)); exact BK129.out)) : gb139 ≠ gb129)); have n12_ := qi_.mk ((by rw [hg]; exact Nat.ne_of_lt (blk_lt (g := gb132) (o := .cells #[.int .i64 t130, .int .i64 t131] 26 (0, 0)) (by (with_reducible repeat (first | refine qd_ ?_ _ | refine qh_ ?_)); exact BK132.out)) : gb132 ≠ gb139)); have n13_ := qi_.mk ((by rw [hg]; exact Nat.ne_of_gt (blk_lt (g := gb132) (o := .cells #[.int .i64 t130, .int .i64 t131] 26 (0, 0)) (by (with_reducible repeat (first | refine qd_ ?_ _ | refine qh_ ?_)); exact BK132.out)) : gb139 ≠ gb132)); clear HO_8; clear BK128; clear BK129; clear BK132; clear HB; have HO_8 := n0_; have BK128 := n1_; have BK129 := n2_; have BK132 := n3_; have HB := n4_; have BK139 := n5_; have GW139 := n6_; have GE139 := n7_; have NB128_139 := n8_; have NB139_128 := n9_; have NB129_139 := n10_; have NB139_129 := n11_; have NB132_139 := n12_; have NB139_132 := n13_; clear n0_ n1_ n2_ n3_ n4_ n5_ n6_ n7_ n8_ n9_ n10_ n11_ n12_ n13_; clear hb hbox hg; have hnb63 := NB139_128.out; have hnc63 := NB128_139.out; have hnb64 := NB139_129.out; have hnc64 := NB129_139.out; have hnb65 := NB139_132.out; have hnc65 := NB132_139.out; have hcz66_0 : w62.cell? ⟨gb139, 0, none⟩ = some (.int .i64 0) := (qb_ BK139.out 0).trans rfl; have hcz66_1 : w62.cell? ⟨gb139, 1, none⟩ = some (.slice none 0 0) := (qb_ BK139.out 1).trans rfl; have hcz66_2 : w62.cell? ⟨gb139, 2, none⟩ = some (.slice none 0 0) := (qb_ BK139.out 2).trans rfl; have hfz66_0 := qg_ BK139.out 0; have hfz66_1 := qg_ BK139.out 1; have hfz66_2 := qg_ BK139.out 2))
             have n0_ : qi_ (Kd.R Kd.string 9 (((w62.setCell ⟨gb139, 0, none⟩ (.int .i64 ((rd_T52 l0_0 x27_1).f0))).setCell ⟨gb139, 1, none⟩ (.slice A138_1 ((rd_T52 l0_0 x27_1).f1).length c138_1)).setCell ⟨gb139, 2, none⟩ (.slice A138_2 ((rd_T52 l0_0 x27_1).f2).length c138_2)) w.heap.size (fun _ => True) u8 x8_1) := ⟨by (with_reducible repeat (first | apply Kd.qo_ | apply Kd.qp_)); exact Kd.R_mono (Kd.R_far (p := ⟨gb139, 2, none⟩) (Kd.R_far (p := ⟨gb139, 1, none⟩) (Kd.R_far (p := ⟨gb139, 0, none⟩) (Kd.R_types HO_8.out BK139.out (by decide)) (fun _ hk => hk.2) (.int .i64 ((rd_T52 l0_0 x27_1).f0))) (fun _ hk => hk.2) (.slice A138_1 ((rd_T52 l0_0 x27_1).f1).length c138_1)) (fun _ hk => hk.2) (.slice A138_2 ((rd_T52 l0_0 x27_1).f2).length c138_2)) (fun _ hk => trivial)⟩
             have n1_ : qi_ ((((w62.setCell ⟨gb139, 0, none⟩ (.int .i64 ((rd_T52 l0_0 x27_1).f0))).setCell ⟨gb139, 1, none⟩ (.slice A138_1 ((rd_T52 l0_0 x27_1).f1).length c138_1)).setCell ⟨gb139, 2, none⟩ (.slice A138_2 ((rd_T52 l0_0 x27_1).f2).length c138_2)).heap[gb128]? = some (.cells #[.slice (some ad138) l0_0.length c0_0] 41 (0, 0))) := ⟨by (with_reducible repeat (first | refine qd_ ?_ _ | refine qh_ ?_)); refine q7_ ?_ NB128_139.out _; (with_reducible repeat (first | refine qd_ ?_ _ | refine qh_ ?_)); refine q7_ ?_ NB128_139.out _; (with_reducible repeat (first | refine qd_ ?_ _ | refine qh_ ?_)); refine q7_ ?_ NB128_139.out _; (with_reducible repeat (first | refine qd_ ?_ _ | refine qh_ ?_)); exact BK128.out⟩
             have n2_ : qi_ ((((w62.setCell ⟨gb139, 0, none⟩ (.int .i64 ((rd_T52 l0_0 x27_1).f0))).setCell ⟨gb139, 1, none⟩ (.slice A138_1 ((rd_T52 l0_0 x27_1).f1).length c138_1)).setCell ⟨gb139, 2, none⟩ (.slice A138_2 ((rd_T52 l0_0 x27_1).f2).length c138_2)).heap[gb129]? = some (.cells #[.int .i64 x130000_1, .int .i64 x130001_1] 26 (0, 0))) := ⟨by (with_reducible repeat (first | refine qd_ ?_ _ | refine qh_ ?_)); refine q7_ ?_ NB129_139.out _; (with_reducible repeat (first | refine qd_ ?_ _ | refine qh_ ?_)); refine q7_ ?_ NB129_139.out _; (with_reducible repeat (first | refine qd_ ?_ _ | refine qh_ ?_)); refine q7_ ?_ NB129_139.out _; (with_reducible repeat (first | refine qd_ ?_ _ | refine qh_ ?_)); exact BK129.out⟩
             have n3_ : qi_ ((((w62.setCell ⟨gb139, 0, none⟩ (.int .i64 ((rd_T52 l0_0 x27_1).f0))).setCell ⟨gb139, 1, none⟩ (.slice A138_1 ((rd_T52 l0_0 x27_1).f1).length c138_1)).setCell ⟨gb139, 2, none⟩ (.slice A138_2 ((rd_T52 l0_0 x27_1).f2).length c138_2)).heap[gb132]? = some (.cells #[.int .i64 t130, .int .i64 t131] 26 (0, 0))) := ⟨by (with_reducible repeat (first | refine qd_ ?_ _ | refine qh_ ?_)); refine q7_ ?_ NB132_139.out _; (with_reducible repeat (first | refine qd_ ?_ _ | refine qh_ ?_)); refine q7_ ?_ NB132_139.out _; (with_reducible repeat (first | refine qd_ ?_ _ | refine qh_ ?_)); refine q7_ ?_ NB132_139.out _; (with_reducible repeat (first | refine qd_ ?_ _ | refine qh_ ?_)); exact BK132.out⟩
             have n4_ : qi_ ((((w62.setCell ⟨gb139, 0, none⟩ (.int .i64 ((rd_T52 l0_0 x27_1).f0))).setCell ⟨gb139, 1, none⟩ (.slice A138_1 ((rd_T52 l0_0 x27_1).f1).length c138_1)).setCell ⟨gb139, 2, none⟩ (.slice A138_2 ((rd_T52 l0_0 x27_1).f2).length c138_2)).heap[gb139]? = some (.cells #[.int .i64 ((rd_T52 l0_0 x27_1).f0), .slice A138_1 ((rd_T52 l0_0 x27_1).f1).length c138_1, .slice A138_2 ((rd_T52 l0_0 x27_1).f2).length c138_2] 52 (0, 0))) := ⟨by (with_reducible repeat (first | refine qd_ ?_ _ | refine qh_ ?_)); refine q6_ (cs := #[.int .i64 ((rd_T52 l0_0 x27_1).f0), .slice A138_1 ((rd_T52 l0_0 x27_1).f1).length c138_1, .slice none 0 0]) ?_ 2 _ rfl; (with_reducible repeat (first | refine qd_ ?_ _ | refine qh_ ?_)); refine q6_ (cs := #[.int .i64 ((rd_T52 l0_0 x27_1).f0), .slice none 0 0, .slice none 0 0]) ?_ 1 _ rfl; (with_reducible repeat (first | refine qd_ ?_ _ | refine qh_ ?_)); refine q6_ (cs := #[.int .i64 0, .slice none 0 0, .slice none 0 0]) ?_ 0 _ rfl; (with_reducible repeat (first | refine qd_ ?_ _ | refine qh_ ?_)); exact BK139.out⟩
             have n5_ : qi_ (Below w.heap.size w (((w62.setCell ⟨gb139, 0, none⟩ (.int .i64 ((rd_T52 l0_0 x27_1).f0))).setCell ⟨gb139, 1, none⟩ (.slice A138_1 ((rd_T52 l0_0 x27_1).f1).length c138_1)).setCell ⟨gb139, 2, none⟩ (.slice A138_2 ((rd_T52 l0_0 x27_1).f2).length c138_2))) := ⟨by repeat (first | (with_reducible first | exact HB.out | apply qe_ | apply qa_ | apply qc_ | refine qf_ ?_ GE128.out | refine qf_ ?_ GE129.out | refine qf_ ?_ GE132.out | refine qf_ ?_ GE139.out) | exact HB.out)⟩
             (try clear HO_8)
             (try clear BK128)
             (try clear BK129)
             (try clear BK132)
             (try clear BK139)
             (try clear HB)
             generalize (((w62.setCell ⟨gb139, 0, none⟩ (.int .i64 ((rd_T52 l0_0 x27_1).f0))).setCell ⟨gb139, 1, none⟩ (.slice A138_1 ((rd_T52 l0_0 x27_1).f1).length c138_1)).setCell ⟨gb139, 2, none⟩ (.slice A138_2 ((rd_T52 l0_0 x27_1).f2).length c138_2)) = w67 at n0_ n1_ n2_ n3_ n4_ n5_ ⊢
             have HO_8 := n0_
             have BK128 := n1_
             have BK129 := n2_
             have BK132 := n3_
             have BK139 := n4_
             have HB := n5_
             clear n0_ n1_ n2_ n3_ n4_ n5_
             have n0_ := qi_.mk (Kd.qp_ HO_8.out)
             have n1_ := qi_.mk (qh_ BK128.out)
             have n2_ := qi_.mk (qh_ BK129.out)
             have n3_ := qi_.mk (qh_ BK132.out)
             have n4_ := qi_.mk (qh_ BK139.out)
             have n5_ := qi_.mk (qc_ HB.out)
             clear HO_8
             clear BK128
             clear BK129
             clear BK132
             clear BK139
             clear HB
             have HO_8 := n0_
             have BK128 := n1_
             have BK129 := n2_
             have BK132 := n3_
             have BK139 := n4_
             have HB := n5_
             clear n0_ n1_ n2_ n3_ n4_ n5_
             refine start_ (n := 17) (S := fun w' => w'.cell? ⟨gb139, 0, none⟩ = some (.int .i64 ((rd_T52 l0_0 x27_1).f0)) ∧ w'.cell? ⟨gb139, 1, none⟩ = some (.slice A138_1 ((rd_T52 l0_0 x27_1).f1).length c138_1) ∧ w'.cell? ⟨gb139, 2, none⟩ = some (.slice A138_2 ((rd_T52 l0_0 x27_1).f2).length c138_2)) (ds := []) #[false, false, false, false, false, false, false, false, false, false, false, false, false, false, false, false, false] (by kernel_rfl) rfl rfl ⟨(qb_ BK139.out 0).trans rfl, (qb_ BK139.out 1).trans rfl, (qb_ BK139.out 2).trans rfl⟩ (fun hHeld => ?_); refine with_tabW qy_.tab12 qy_.bits12 (fun HT_ HW_ => ?_)
             generalize w67.drew = w68 at HO_8 BK128 BK129 BK132 BK139 HB hHeld ⊢
             refine pure_ (i := 2) (N := some 34) (v := ?_) (a' := ?_) #[false, false, true, false, false, false, false, false, false, false, false, false, false, false, false, false, false] rfl rfl (any_of HT_.out (by kernel_rfl)) (fun _ _ _ h => h) (Or.inl ⟨by rfl, ?_⟩) ?_ ?_
             rotate_left
             ·intro w'
              go_simp
              with_reducible rfl
             rotate_left
             ·simp only [Act.put, List.setIfInBounds_toArray, List.set_cons_zero, List.set_cons_succ, i64_w, i32_w]
              rfl
             refine pure_ (i := 3) (N := some 35) (v := ?_) (a' := ?_) #[false, false, true, true, false, false, false, false, false, false, false, false, false, false, false, false, false] rfl rfl (any_of HT_.out (by kernel_rfl)) (fun _ _ _ h => h) (Or.inl ⟨by rfl, ?_⟩) ?_ ?_
             rotate_left
             ·intro w'
              go_simp
              with_reducible rfl
             rotate_left
             ·simp only [Act.put, List.setIfInBounds_toArray, List.set_cons_zero, List.set_cons_succ, i64_w, i32_w]
              rfl
             refine take_ (i := 0) (N := some 32) (v := ?_) (a' := ?_) #[true, false, true, true, false, false, false, false, false, false, false, false, false, false, false, false, false] rfl rfl (take_ofW HT_.out HW_.out (by kernel_rfl)) (fun _ _ _ h => h) (Or.inl ⟨by rfl, ?_⟩) hHeld ?_ ?_
             rotate_left
             ·rintro w' ⟨s0, s1, s2⟩
              go_simp
              with_reducible rfl
             rotate_left
             ·simp only [Act.put, List.setIfInBounds_toArray, List.set_cons_zero, List.set_cons_succ, i64_w, i32_w]
              rfl
             refine one_ (i := 1) (N := some 33) #[true, true, true, true, false, false, false, false, false, false, false, false, false, false, false, false, false] rfl rfl (one_of HT_.out (by kernel_rfl)) (by decide) (fun K hK => ?_)
             refine goes_ Try.func32 (by kernel_rfl) rfl #[.agg #[.int .i64 ((rd_T52 l0_0 x27_1).f0), .slice A138_1 ((rd_T52 l0_0 x27_1).f1).length c138_1, .slice A138_2 ((rd_T52 l0_0 x27_1).f2).length c138_2]] (by rfl) rfl rfl (by simp only [List.map_toArray]; first | done | rfl | (simp only [List.length_drop, List.length_take]; rfl)) ?_
             with_reducible refine (textpatch_End.calls ((rd_T52 l0_0 x27_1).f0) _ _ ((rd_T52 l0_0 x27_1).f1) _ _ ((rd_T52 l0_0 x27_1).f2) t140 _ ?side1 ?side2 ?side3 ?side4 A21.out).mono ?_
             (case side1 => repeat (first | exact (Kd.C_below HR138_1.out HB.out)))
             (case side2 => exact HC138_1.out)
             (case side3 => repeat (first | exact (Kd.C_below HR138_2.out HB.out)))
             (case side4 => exact HC138_2.out)
             rintro e w69 ⟨rfl, hb⟩
             refine ⟨_, rfl, ?_⟩
             have n0_ := qi_.mk (Kd.R_below (by (with_reducible repeat (first | apply Kd.qo_ | apply Kd.qp_)); exact HO_8.out) hb)
             have n1_ := qi_.mk (qn_ (g := gb128) (o := .cells #[.slice (some ad138) l0_0.length c0_0] 41 (0, 0)) (by (with_reducible repeat (first | refine qd_ ?_ _ | refine qh_ ?_)); exact BK128.out) hb)
             have n2_ := qi_.mk (qn_ (g := gb129) (o := .cells #[.int .i64 x130000_1, .int .i64 x130001_1] 26 (0, 0)) (by (with_reducible repeat (first | refine qd_ ?_ _ | refine qh_ ?_)); exact BK129.out) hb)
             have n3_ := qi_.mk (qn_ (g := gb132) (o := .cells #[.int .i64 t130, .int .i64 t131] 26 (0, 0)) (by (with_reducible repeat (first | refine qd_ ?_ _ | refine qh_ ?_)); exact BK132.out) hb)
             have n4_ := qi_.mk (qn_ (g := gb139) (o := .cells #[.int .i64 ((rd_T52 l0_0 x27_1).f0), .slice A138_1 ((rd_T52 l0_0 x27_1).f1).length c138_1, .slice A138_2 ((rd_T52 l0_0 x27_1).f2).length c138_2] 52 (0, 0)) (by (with_reducible repeat (first | refine qd_ ?_ _ | refine qh_ ?_)); exact BK139.out) hb)
             have n5_ := qi_.mk (qr_ (by repeat (first | (with_reducible first | exact HB.out | apply qe_ | apply qa_ | apply qc_ | refine qf_ ?_ GE128.out | refine qf_ ?_ GE129.out | refine qf_ ?_ GE132.out | refine qf_ ?_ GE139.out) | exact HB.out)) hb)
             clear HO_8
             clear BK128
             clear BK129
             clear BK132
             clear BK139
             clear HB
             have HO_8 := n0_
             have BK128 := n1_
             have BK129 := n2_
             have BK132 := n3_
             have BK139 := n4_
             have HB := n5_
             clear n0_ n1_ n2_ n3_ n4_ n5_
             (try clear hb)
             (try clear hb2)
             (try clear hk)
             (try clear hi)
             refine hK.out _ _ ⟨(qb_ BK139.out 0).trans rfl, (qb_ BK139.out 1).trans rfl, (qb_ BK139.out 2).trans rfl⟩ (fun hHeld => ?_)
             clear hK K
             refine norm_ (a' := ?_) ?_ ?_
             rotate_left
             ·show Act.put _ (some 33) _ = _
              simp only [Act.put, List.setIfInBounds_toArray, List.set_cons_zero, List.set_cons_succ, i64_w, i32_w]
              rfl
             refine pure_ (i := 4) (N := some 36) (v := ?_) (a' := ?_) #[true, true, true, true, true, false, false, false, false, false, false, false, false, false, false, false, false] rfl rfl (any_of HT_.out (by kernel_rfl)) (fun _ _ _ h => h) (Or.inl ⟨by rfl, ?_⟩) ?_ ?_
             rotate_left
             ·intro w'
              go_simp
              with_reducible rfl
             rotate_left
             ·simp only [Act.put, List.setIfInBounds_toArray, List.set_cons_zero, List.set_cons_succ, i64_w, i32_w]
              rfl
             refine pure_ (i := 5) (N := some 37) (v := ?_) (a' := ?_) #[true, true, true, true, true, true, false, false, false, false, false, false, false, false, false, false, false] rfl rfl (any_of HT_.out (by kernel_rfl)) (fun _ _ _ h => h) (Or.inl ⟨by rfl, ?_⟩) ?_ ?_
             rotate_left
             ·intro w'
              go_simp
              with_reducible rfl
             rotate_left
             ·simp only [Act.put, List.setIfInBounds_toArray, List.set_cons_zero, List.set_cons_succ, i64_w, i32_w]
              rfl
             refine pure_ (i := 6) (N := some 38) (v := ?_) (a' := ?_) #[true, true, true, true, true, true, true, false, false, false, false, false, false, false, false, false, false] rfl rfl (any_of HT_.out (by kernel_rfl)) (fun _ _ _ h => h) (Or.inl ⟨by rfl, ?_⟩) ?_ ?_
             rotate_left
             ·intro w'
              go_simp
              with_reducible rfl
             rotate_left
             ·simp only [Act.put, List.setIfInBounds_toArray, List.set_cons_zero, List.set_cons_succ, i64_w, i32_w]
              rfl
             refine pure_ (i := 7) (N := some 39) (v := ?_) (a' := ?_) #[true, true, true, true, true, true, true, true, false, false, false, false, false, false, false, false, false] rfl rfl (any_of HT_.out (by kernel_rfl)) (fun _ _ _ h => h) (Or.inl ⟨by rfl, ?_⟩) ?_ ?_
             rotate_left
             ·intro w'
              go_simp
              with_reducible rfl
             rotate_left
             ·simp only [Act.put, List.setIfInBounds_toArray, List.set_cons_zero, List.set_cons_succ, i64_w, i32_w]
              rfl
             refine pure_ (i := 12) (N := some 44) (v := ?_) (a' := ?_) #[true, true, true, true, true, true, true, true, false, false, false, false, true, false, false, false, false] rfl rfl (any_of HT_.out (by kernel_rfl)) (fun _ _ _ h => h) (Or.inl ⟨by rfl, ?_⟩) ?_ ?_
             rotate_left
             ·intro w'
              go_simp
              with_reducible rfl
             rotate_left
             ·simp only [Act.put, List.setIfInBounds_toArray, List.set_cons_zero, List.set_cons_succ, i64_w, i32_w]
              rfl
             refine take_ (i := 8) (N := some 40) (v := ?_) (a' := ?_) #[true, true, true, true, true, true, true, true, true, false, false, false, true, false, false, false, false] rfl rfl (take_ofW HT_.out HW_.out (by kernel_rfl)) (fun _ _ _ h => h) (Or.inl ⟨by rfl, ?_⟩) hHeld ?_ ?_
             rotate_left
             ·rintro w' ⟨s0, s1, s2⟩
              go_simp
              with_reducible rfl
             rotate_left
             ·simp only [Act.put, List.setIfInBounds_toArray, List.set_cons_zero, List.set_cons_succ, i64_w, i32_w]
              rfl
             refine take_ (i := 9) (N := some 41) (v := ?_) (a' := ?_) #[true, true, true, true, true, true, true, true, true, true, false, false, true, false, false, false, false] rfl rfl (take_ofW HT_.out HW_.out (by kernel_rfl)) (fun _ _ _ h => h) (Or.inl ⟨by rfl, ?_⟩) hHeld ?_ ?_
             rotate_left
             ·rintro w' ⟨s0, s1, s2⟩
              go_simp
              with_reducible rfl
             rotate_left
             ·simp only [Act.put, List.setIfInBounds_toArray, List.set_cons_zero, List.set_cons_succ, i64_w, i32_w]
              rfl
             refine take_ (i := 13) (N := some 45) (v := ?_) (a' := ?_) #[true, true, true, true, true, true, true, true, true, true, false, false, true, true, false, false, false] rfl rfl (take_ofW HT_.out HW_.out (by kernel_rfl)) (fun _ _ _ h => h) (Or.inl ⟨by rfl, ?_⟩) hHeld ?_ ?_
             rotate_left
             ·rintro w' ⟨s0, s1, s2⟩
              go_simp
              with_reducible rfl
             rotate_left
             ·simp only [Act.put, List.setIfInBounds_toArray, List.set_cons_zero, List.set_cons_succ, i64_w, i32_w]
              rfl
             refine one_ (i := 10) (N := some 42) #[true, true, true, true, true, true, true, true, true, true, true, false, true, true, false, false, false] rfl rfl (one_of HT_.out (by kernel_rfl)) (by decide) (fun K hK => ?_)
             refine goes_ Try.func32 (by kernel_rfl) rfl #[.agg #[.int .i64 ((rd_T52 l0_0 x27_1).f0), .slice A138_1 ((rd_T52 l0_0 x27_1).f1).length c138_1, .slice A138_2 ((rd_T52 l0_0 x27_1).f2).length c138_2]] (by rfl) rfl rfl (by simp only [List.map_toArray]; first | done | rfl | (simp only [List.length_drop, List.length_take]; rfl)) ?_
             with_reducible refine (textpatch_End.calls ((rd_T52 l0_0 x27_1).f0) _ _ ((rd_T52 l0_0 x27_1).f1) _ _ ((rd_T52 l0_0 x27_1).f2) t141 _ ?side1 ?side2 ?side3 ?side4 A34.out).mono ?_
             (case side1 => repeat (first | exact (Kd.C_below HR138_1.out HB.out)))
             (case side2 => exact HC138_1.out)
             (case side3 => repeat (first | exact (Kd.C_below HR138_2.out HB.out)))
             (case side4 => exact HC138_2.out)
             rintro e w70 ⟨rfl, hb⟩
             refine ⟨_, rfl, ?_⟩
             have n0_ := qi_.mk (Kd.R_below (by (with_reducible repeat (first | apply Kd.qo_ | apply Kd.qp_)); exact HO_8.out) hb)
             have n1_ := qi_.mk (qn_ (g := gb128) (o := .cells #[.slice (some ad138) l0_0.length c0_0] 41 (0, 0)) (by (with_reducible repeat (first | refine qd_ ?_ _ | refine qh_ ?_)); exact BK128.out) hb)
             have n2_ := qi_.mk (qn_ (g := gb129) (o := .cells #[.int .i64 x130000_1, .int .i64 x130001_1] 26 (0, 0)) (by (with_reducible repeat (first | refine qd_ ?_ _ | refine qh_ ?_)); exact BK129.out) hb)
             have n3_ := qi_.mk (qn_ (g := gb132) (o := .cells #[.int .i64 t130, .int .i64 t131] 26 (0, 0)) (by (with_reducible repeat (first | refine qd_ ?_ _ | refine qh_ ?_)); exact BK132.out) hb)
             have n4_ := qi_.mk (qn_ (g := gb139) (o := .cells #[.int .i64 ((rd_T52 l0_0 x27_1).f0), .slice A138_1 ((rd_T52 l0_0 x27_1).f1).length c138_1, .slice A138_2 ((rd_T52 l0_0 x27_1).f2).length c138_2] 52 (0, 0)) (by (with_reducible repeat (first | refine qd_ ?_ _ | refine qh_ ?_)); exact BK139.out) hb)
             have n5_ := qi_.mk (qr_ (by repeat (first | (with_reducible first | exact HB.out | apply qe_ | apply qa_ | apply qc_ | refine qf_ ?_ GE128.out | refine qf_ ?_ GE129.out | refine qf_ ?_ GE132.out | refine qf_ ?_ GE139.out) | exact HB.out)) hb)
             clear HO_8
             clear BK128
             clear BK129
             clear BK132
             clear BK139
             clear HB
             have HO_8 := n0_
             have BK128 := n1_
             have BK129 := n2_
             have BK132 := n3_
             have BK139 := n4_
             have HB := n5_
             clear n0_ n1_ n2_ n3_ n4_ n5_
             (try clear hb)
             (try clear hb2)
             (try clear hk)
             (try clear hi)
             obtain ⟨i071, hi071, _, hsz71, _⟩ := info_parts info9
             obtain ⟨A71, hcut71, hA71, hC71⟩ := print_mid_of (P := Try.prog) Value.string (⟨#[]⟩ : ByteArray) 22 9 .i64 .i64 Try.underlying22 hi071 hsz71 A1 c1 l1 ((rd_T52 l0_0 x27_1).f0) t141 (of_decide_eq_true (by assumption)) (by first | omega | exact of_decide_eq_true (by assumption)) (of_decide_eq_true (by assumption)) HC1.out
             have HR142 := qi_.mk (Kd.C_of_reads (h1 := fun _ => rfl) (hA71 _ (Kd.reads_of_C HR1.out)))
             have HC142 := qi_.mk hC71
             clear hA71 hC71 hi071 hsz71
             refine hK.out _ _ ⟨(qb_ BK139.out 0).trans rfl, (qb_ BK139.out 1).trans rfl, (qb_ BK139.out 2).trans rfl⟩ (fun hHeld => ?_)
             clear hK K
             refine norm_ (a' := ?_) ?_ ?_
             rotate_left
             ·show Act.put _ (some 42) _ = _
              simp only [Act.put, List.setIfInBounds_toArray, List.set_cons_zero, List.set_cons_succ, i64_w, i32_w]
              rfl
             refine pure_ (i := 11) (N := some 43) (v := ?_) (a' := ?_) #[true, true, true, true, true, true, true, true, true, true, true, true, true, true, false, false, false] rfl rfl (any_of HT_.out (by kernel_rfl)) (fun _ _ _ h => h) (Or.inl ⟨by rfl, ?_⟩) ?_ ?_
             rotate_left
             ·intro w'
              go_simp
              with_reducible rfl
             rotate_left
             ·simp only [Act.put, List.setIfInBounds_toArray, List.set_cons_zero, List.set_cons_succ, i64_w, i32_w]
              rfl
             refine one_ (i := 14) (N := some 46) #[true, true, true, true, true, true, true, true, true, true, true, true, true, true, true, false, false] rfl rfl (one_of HT_.out (by kernel_rfl)) (by decide) (fun K hK => ?_)
             refine goes_ Try.func33 (by kernel_rfl) rfl #[.slice A71 ((l1.take (t141 : Int).toNat).drop (((rd_T52 l0_0 x27_1).f0) : Int).toNat).length (c1 - ((rd_T52 l0_0 x27_1).f0).toNat), .slice A138_1 ((rd_T52 l0_0 x27_1).f1).length c138_1] (by rfl) rfl rfl (by (try simp only [List.map_toArray, List.map_cons, List.map_nil]); first | done | (rw [show ((l1.take (t141 : Int).toNat).drop (((rd_T52 l0_0 x27_1).f0) : Int).toNat).length = (t141.toNat - ((rd_T52 l0_0 x27_1).f0).toNat) from (by rw [List.length_drop, List.length_take]; have h_ : (t141 : Int) ≤ (l1.length : Int) := of_decide_eq_true (by assumption); omega)] <;> rfl) | rfl | (simp only [List.length_drop, List.length_take]; rfl)) ?_
             with_reducible refine (q0_.calls k1 _ _ ((l1.take (t141 : Int).toNat).drop (((rd_T52 l0_0 x27_1).f0) : Int).toNat) _ _ ((rd_T52 l0_0 x27_1).f1) false _ ?side1 ?side2 ?side3 ?side4 A38.out).mono ?_
             (case side1 => repeat (first | exact (Kd.C_below HR142.out HB.out)))
             (case side2 => exact HC142.out)
             (case side3 => repeat (first | exact (Kd.C_below HR138_1.out HB.out)))
             (case side4 => exact HC138_1.out)
             rintro e w' ⟨rfl, ⟨nd, rfl⟩⟩
             refine ⟨_, rfl, ?_⟩
             refine hK.out _ _ ⟨(qb_ BK139.out 0).trans rfl, (qb_ BK139.out 1).trans rfl, (qb_ BK139.out 2).trans rfl⟩ (fun hHeld => ?_)
             clear hK K
             refine norm_ (a' := ?_) ?_ ?_
             rotate_left
             ·show Act.put _ (some 46) _ = _
              simp only [Act.put, List.setIfInBounds_toArray, List.set_cons_zero, List.set_cons_succ, i64_w, i32_w]
              rfl
             refine pure_ (i := 15) (N := some 47) (v := ?_) (a' := ?_) #[true, true, true, true, true, true, true, true, true, true, true, true, true, true, true, true, false] rfl rfl (any_of HT_.out (by kernel_rfl)) (fun _ _ _ h => h) (Or.inl ⟨by rfl, ?_⟩) ?_ ?_
             rotate_left
             ·intro w'
              go_simp
              with_reducible rfl
             rotate_left
             ·simp only [Act.put, List.setIfInBounds_toArray, List.set_cons_zero, List.set_cons_succ, i64_w, i32_w]
              rfl
             refine pure_ (i := 16) (N := some 48) (v := ?_) (a' := ?_) #[true, true, true, true, true, true, true, true, true, true, true, true, true, true, true, true, true] rfl rfl (any_of HT_.out (by kernel_rfl)) (fun _ _ _ h => h) (Or.inl ⟨by rfl, ?_⟩) ?_ ?_
             rotate_left
             ·intro w'
              go_simp
              with_reducible rfl
             rotate_left
             ·simp only [Act.put, List.setIfInBounds_toArray, List.set_cons_zero, List.set_cons_succ, i64_w, i32_w]
              rfl
             refine done_ (done_of HT_.out (by kernel_rfl)) ?_
             have hnb72 := NB129_128.out
             have hnc72 := NB128_129.out
             have hnb73 := NB129_132.out
             have hnc73 := NB132_129.out
             have hcz74_0 : w70.cell? ⟨gb129, 0, none⟩ = some (.int .i64 x130000_1) := (qb_ BK129.out 0).trans rfl
             have hcz74_1 : w70.cell? ⟨gb129, 1, none⟩ = some (.int .i64 x130001_1) := (qb_ BK129.out 1).trans rfl
             have hfz74_0 := qg_ BK129.out 0
             have hfz74_1 := qg_ BK129.out 1
             try go_wp2
             refine bodyPost_ret (results_tc rfl _ _ gb129 26 #[.int .i64 19, .int .i64 x27_1] (0, 0) _ rfl (by (with_reducible repeat (first | refine qd_ ?_ _ | refine qh_ ?_)); refine q6_ (cs := #[.int .i64 19, .int .i64 x130001_1]) ?_ 1 _ rfl; (with_reducible repeat (first | refine qd_ ?_ _ | refine qh_ ?_)); refine q6_ (cs := #[.int .i64 x130000_1, .int .i64 x130001_1]) ?_ 0 _ rfl; (with_reducible repeat (first | refine qd_ ?_ _ | refine qh_ ?_)); exact BK129.out) Try.underlying26 rfl (by kernel_rfl)) rfl ?_
             exact ⟨_, by first | rfl | (simp [*] <;> rfl), by first | exact Kd.R_nil _ _ _ _ _ | exact Kd.N_nil _ _ _ _ _ | exact Kd.V_nil _ _ _ _ _ | exact Kd.Q_nil _ _ _ _ _ | exact Kd.S_nil _ _ _ _ _, by repeat (first | (with_reducible first | exact HB.out | apply qe_ | apply qa_ | apply qc_ | refine qf_ ?_ GE128.out | refine qf_ ?_ GE129.out | refine qf_ ?_ GE132.out | refine qf_ ?_ GE139.out) | exact HB.out)⟩
           ·rw [if_neg c37] at H
            exact absurd H (by simp)
          ·rw [if_neg c36] at H
           exact absurd H (by simp)
         ·rw [if_neg c35] at H
          exact absurd H (by simp)
       ·rw [if_neg c20] at H
        exact absurd H (by simp)
      ·rw [if_neg c19] at H
       exact absurd H (by simp)
     ·rw [if_neg c18] at H
      have c18b0 : decide (x27_1 < (l0_0.length : Int)) = false := decide_eq_false c18
      clear c18
      by_cases c75 : 0 ≤ x9_1
      ·rw [if_pos c75] at H
       have c75b0 := eq_true c75
       have c75b1 : decide (0 ≤ x9_1) = true := decide_eq_true c75
       clear c75
       by_cases c76 : x9_1 ≤ (l1.length : Int)
       ·rw [if_pos c76] at H
        have c76b0 := eq_true c76
        have c76b1 : decide (x9_1 ≤ (l1.length : Int)) = true := decide_eq_true c76
        clear c76
        by_cases c77 : x8_1.length + (l1.drop (x9_1 : Int).toNat).length < 8796093022208
        ·rw [if_pos c77] at H
         have LMc77 := qi_.mk c77
         clear c77
         obtain ⟨y135, hy135⟩ : ∃ y_ : List ByteArray, y_ = (x8_1 ++ (l1.drop (x9_1 : Int).toNat)) := ⟨_, rfl⟩
         replace H : (if (y135.length : Int) > 120 then (some (([] : List ByteArray), 10, (-1))) else (some (y135, 0, 0))) = some (r1, r2, r3) := by first | (rw [hy135]; with_reducible exact H) | (have H2_ := (Option.bind_some _ _).symm.trans H; rw [hy135]; with_reducible exact H2_) | (have H2_ := (Option.bind_some _ _).symm.trans H; with_reducible exact H2_) | with_reducible exact H | (rw [hy135]; exact H) | exact H
         have Ny135 := qi_.mk hy135
         clear hy135
         by_cases c78 : (y135.length : Int) > 120
         ·rw [if_pos c78] at H
          have c78b0 : decide (120 < (y135.length : Int)) = true := decide_eq_true c78
          have c78b1 : decide (120 < y135.length) = true := decide_eq_true (by omega)
          clear c78
          simp only [Option.some.injEq, Prod.mk.injEq] at H
          obtain ⟨rfl, rfl, rfl⟩ := H
          obtain ⟨i079, hi079, _, hsz79, _⟩ := info_parts info9
          obtain ⟨A79, hcut79, hA79, hC79⟩ := print_drop_of (P := Try.prog) Value.string (⟨#[]⟩ : ByteArray) 22 9 .i64 Try.underlying22 hi079 hsz79 A1 c1 l1 x9_1 (of_decide_eq_true (by assumption)) (of_decide_eq_true (by assumption)) HC1.out
          have HR134 := qi_.mk (Kd.C_of_reads (h1 := fun _ => rfl) (hA79 _ (Kd.reads_of_C HR1.out)))
          have HC134 := qi_.mk hC79
          clear hA79 hC79 hi079 hsz79
          go_wp2_with (first | ((with_reducible refine gate_builtin (b := .append) (xs := #[.tmp 64, .tmp 67]) rfl ?_); at_builtin; refine Kd.R_append_rows Kd.string (w0 := w) w.heap.size rfl (.tmp 64) (.tmp 67) 22 9 (.string ⟨#[]⟩) 16 rfl Try.underlying22 info9 rfl (by decide) (by omega) u8 x8_1 (l1.drop (x9_1 : Int).toNat) _ _ _ (fun _ => True) (fun _ => False) rfl rfl ?aO ?aR (fun _ _ h => h) (fun _ h => h.elim) ?aF ?aB ?aS ?aL ?_; (case aR => first | (rw [← show (l1.drop (x9_1 : Int).toNat).length = (l1.length - x9_1.toNat) from List.length_drop]; repeat (first | exact (Kd.C_below HR134.out HB.out))) | (repeat (first | exact (Kd.C_below HR134.out HB.out)))); (case aB => exact (by repeat (first | (with_reducible first | exact HB.out | apply qe_ | apply qa_ | apply qc_ | refine qf_ ?_ GE128.out | refine qf_ ?_ GE129.out | refine qf_ ?_ GE132.out) | exact HB.out))); (case aF => exact (fun _ _ => trivial)); (case aO => exact (by (with_reducible repeat (first | apply Kd.qo_ | apply Kd.qp_)); exact HO_8.out)); (case aS => exact (qq_ (by repeat (first | (with_reducible first | exact HB.out | apply qe_ | apply qa_ | apply qc_ | refine qf_ ?_ GE128.out | refine qf_ ?_ GE129.out | refine qf_ ?_ GE132.out) | exact HB.out)))); (case aL => have := LMc77.out; have hlx_ := (show (l1.drop (x9_1 : Int).toNat).length = (l1.length - x9_1.toNat) from List.length_drop); omega); intro v136 w80 ho hb hg hat; rw [← Ny135.out] at ho; have n0_ := qi_.mk (blk_grown (g := gb128) (o := .cells #[.slice A0_0 l0_0.length c0_0] 41 (0, 0)) (by (with_reducible repeat (first | refine qd_ ?_ _ | refine qh_ ?_)); exact BK128.out) hg (Kd.R_ne HO_8.out BK128.out (by decide))); have n1_ := qi_.mk (blk_grown (g := gb129) (o := .cells #[.int .i64 x130000_1, .int .i64 x130001_1] 26 (0, 0)) (by (with_reducible repeat (first | refine qd_ ?_ _ | refine qh_ ?_)); exact BK129.out) hg (Kd.R_ne HO_8.out BK129.out (by decide))); have n2_ := qi_.mk (blk_grown (g := gb132) (o := .cells #[.int .i64 t130, .int .i64 t131] 26 (0, 0)) (by (with_reducible repeat (first | refine qd_ ?_ _ | refine qh_ ?_)); exact BK132.out) hg (Kd.R_ne HO_8.out BK132.out (by decide))); have n3_ := qi_.mk (hb); have n4_ := qi_.mk (ho); clear BK128; clear BK129; clear BK132; clear HB; clear HO_8; have BK128 := n0_; have BK129 := n1_; have BK132 := n2_; have HB := n3_; have HO137 := n4_; clear n0_ n1_ n2_ n3_ n4_; clear ho hb hg hat; obtain ⟨Ao81, co81, eo81⟩ := Kd.R_slice HO137.out; subst eo81; have hnb82 := NB129_128.out; have hnc82 := NB128_129.out; have hnb83 := NB129_132.out; have hnc83 := NB132_129.out; have hcz84_0 : w80.cell? ⟨gb129, 0, none⟩ = some (.int .i64 x130000_1) := (qb_ BK129.out 0).trans rfl; have hcz84_1 : w80.cell? ⟨gb129, 1, none⟩ = some (.int .i64 x130001_1) := (qb_ BK129.out 1).trans rfl; have hfz84_0 := qg_ BK129.out 0; have hfz84_1 := qg_ BK129.out 1))
          refine bodyPost_ret (results_tc rfl _ _ gb129 26 #[.int .i64 10, .int .i64 (-1)] (0, 0) _ rfl (by (with_reducible repeat (first | refine qd_ ?_ _ | refine qh_ ?_)); refine q6_ (cs := #[.int .i64 10, .int .i64 x130001_1]) ?_ 1 _ rfl; (with_reducible repeat (first | refine qd_ ?_ _ | refine qh_ ?_)); refine q6_ (cs := #[.int .i64 x130000_1, .int .i64 x130001_1]) ?_ 0 _ rfl; (with_reducible repeat (first | refine qd_ ?_ _ | refine qh_ ?_)); exact BK129.out) Try.underlying26 rfl (by kernel_rfl)) rfl ?_
          exact ⟨_, by first | rfl | (simp [*] <;> rfl), by first | exact Kd.R_nil _ _ _ _ _ | exact Kd.N_nil _ _ _ _ _ | exact Kd.V_nil _ _ _ _ _ | exact Kd.Q_nil _ _ _ _ _ | exact Kd.S_nil _ _ _ _ _, by repeat (first | (with_reducible first | exact HB.out | apply qe_ | apply qa_ | apply qc_ | refine qf_ ?_ GE128.out | refine qf_ ?_ GE129.out | refine qf_ ?_ GE132.out) | exact HB.out)⟩
         ·rw [if_neg c78] at H
          have c78b0 : decide (120 < (y135.length : Int)) = false := decide_eq_false c78
          have c78b1 : decide (120 < y135.length) = false := decide_eq_false (by omega)
          clear c78
          simp only [Option.some.injEq, Prod.mk.injEq] at H
          obtain ⟨rfl, rfl, rfl⟩ := H
          obtain ⟨i085, hi085, _, hsz85, _⟩ := info_parts info9
          obtain ⟨A85, hcut85, hA85, hC85⟩ := print_drop_of (P := Try.prog) Value.string (⟨#[]⟩ : ByteArray) 22 9 .i64 Try.underlying22 hi085 hsz85 A1 c1 l1 x9_1 (of_decide_eq_true (by assumption)) (of_decide_eq_true (by assumption)) HC1.out
          have HR134 := qi_.mk (Kd.C_of_reads (h1 := fun _ => rfl) (hA85 _ (Kd.reads_of_C HR1.out)))
          have HC134 := qi_.mk hC85
          clear hA85 hC85 hi085 hsz85
          go_wp2_with (first | ((with_reducible refine gate_builtin (b := .append) (xs := #[.tmp 64, .tmp 67]) rfl ?_); at_builtin; refine Kd.R_append_rows Kd.string (w0 := w) w.heap.size rfl (.tmp 64) (.tmp 67) 22 9 (.string ⟨#[]⟩) 16 rfl Try.underlying22 info9 rfl (by decide) (by omega) u8 x8_1 (l1.drop (x9_1 : Int).toNat) _ _ _ (fun _ => True) (fun _ => False) rfl rfl ?aO ?aR (fun _ _ h => h) (fun _ h => h.elim) ?aF ?aB ?aS ?aL ?_; (case aR => first | (rw [← show (l1.drop (x9_1 : Int).toNat).length = (l1.length - x9_1.toNat) from List.length_drop]; repeat (first | exact (Kd.C_below HR134.out HB.out))) | (repeat (first | exact (Kd.C_below HR134.out HB.out)))); (case aB => exact (by repeat (first | (with_reducible first | exact HB.out | apply qe_ | apply qa_ | apply qc_ | refine qf_ ?_ GE128.out | refine qf_ ?_ GE129.out | refine qf_ ?_ GE132.out) | exact HB.out))); (case aF => exact (fun _ _ => trivial)); (case aO => exact (by (with_reducible repeat (first | apply Kd.qo_ | apply Kd.qp_)); exact HO_8.out)); (case aS => exact (qq_ (by repeat (first | (with_reducible first | exact HB.out | apply qe_ | apply qa_ | apply qc_ | refine qf_ ?_ GE128.out | refine qf_ ?_ GE129.out | refine qf_ ?_ GE132.out) | exact HB.out)))); (case aL => have := LMc77.out; have hlx_ := (show (l1.drop (x9_1 : Int).toNat).length = (l1.length - x9_1.toNat) from List.length_drop); omega); intro v136 w86 ho hb hg hat; rw [← Ny135.out] at ho; have n0_ := qi_.mk (blk_grown (g := gb128) (o := .cells #[.slice A0_0 l0_0.length c0_0] 41 (0, 0)) (by (with_reducible repeat (first | refine qd_ ?_ _ | refine qh_ ?_)); exact BK128.out) hg (Kd.R_ne HO_8.out BK128.out (by decide))); have n1_ := qi_.mk (blk_grown (g := gb129) (o := .cells #[.int .i64 x130000_1, .int .i64 x130001_1] 26 (0, 0)) (by (with_reducible repeat (first | refine qd_ ?_ _ | refine qh_ ?_)); exact BK129.out) hg (Kd.R_ne HO_8.out BK129.out (by decide))); have n2_ := qi_.mk (blk_grown (g := gb132) (o := .cells #[.int .i64 t130, .int .i64 t131] 26 (0, 0)) (by (with_reducible repeat (first | refine qd_ ?_ _ | refine qh_ ?_)); exact BK132.out) hg (Kd.R_ne HO_8.out BK132.out (by decide))); have n3_ := qi_.mk (hb); have n4_ := qi_.mk (ho); clear BK128; clear BK129; clear BK132; clear HB; clear HO_8; have BK128 := n0_; have BK129 := n1_; have BK132 := n2_; have HB := n3_; have HO137 := n4_; clear n0_ n1_ n2_ n3_ n4_; clear ho hb hg hat; obtain ⟨Ao87, co87, eo87⟩ := Kd.R_slice HO137.out; subst eo87; have hnb88 := NB129_128.out; have hnc88 := NB128_129.out; have hnb89 := NB129_132.out; have hnc89 := NB132_129.out; have hcz90_0 : w86.cell? ⟨gb129, 0, none⟩ = some (.int .i64 x130000_1) := (qb_ BK129.out 0).trans rfl; have hcz90_1 : w86.cell? ⟨gb129, 1, none⟩ = some (.int .i64 x130001_1) := (qb_ BK129.out 1).trans rfl; have hfz90_0 := qg_ BK129.out 0; have hfz90_1 := qg_ BK129.out 1))
          refine bodyPost_ret (results_tc rfl _ _ gb129 26 #[.int .i64 0, .int .i64 0] (0, 0) _ rfl (by (with_reducible repeat (first | refine qd_ ?_ _ | refine qh_ ?_)); refine q6_ (cs := #[.int .i64 0, .int .i64 x130001_1]) ?_ 1 _ rfl; (with_reducible repeat (first | refine qd_ ?_ _ | refine qh_ ?_)); refine q6_ (cs := #[.int .i64 x130000_1, .int .i64 x130001_1]) ?_ 0 _ rfl; (with_reducible repeat (first | refine qd_ ?_ _ | refine qh_ ?_)); exact BK129.out) Try.underlying26 rfl (by kernel_rfl)) rfl ?_
          exact ⟨_, by first | rfl | (simp [*] <;> rfl), by (with_reducible repeat (first | apply Kd.qo_ | apply Kd.qp_)); exact Kd.R_mono (Kd.R_far (p := ⟨gb129, 1, none⟩) (Kd.R_far (p := ⟨gb129, 0, none⟩) (Kd.R_types HO137.out BK129.out (by decide)) (fun _ hk => hk.2) (.int .i64 0)) (fun _ hk => hk.2) (.int .i64 0)) (fun _ hk => trivial), by repeat (first | (with_reducible first | exact HB.out | apply qe_ | apply qa_ | apply qc_ | refine qf_ ?_ GE128.out | refine qf_ ?_ GE129.out | refine qf_ ?_ GE132.out) | exact HB.out)⟩
        ·rw [if_neg c77] at H
         exact absurd H (by simp)
       ·rw [if_neg c76] at H
        exact absurd H (by simp)
      ·rw [if_neg c75] at H
       exact absurd H (by simp)
  ·rw [if_neg c6] at H
   have c6b0 : (t133 == 0) = false := beq_eq_false_iff_ne.mpr c6
   have c6b1 : (t133 != 0) = true := bne_iff_ne.mpr c6
   simp only [Option.some.injEq, Prod.mk.injEq] at H
   obtain ⟨rfl, rfl, rfl⟩ := H
   go_enter Try.func22, Try.ntmps22
   go_wp2_with (first | ((with_reducible refine gate_dst (N := 2) rfl ?_); refine q1_ ?hg (N := 2) ?hd (cs := #[.slice A0_0 l0_0.length c0_0]) (t := 41) ?hr ?_; (case hd => rfl); (case hg => rfl); (case hr => first | (go_simp; done) | (go_simp; rfl)); intro gb128 hg w91 hbox hb; have n0_ := qi_.mk (qr_ (by repeat (first | (with_reducible first | exact HB.out | apply qe_ | apply qa_ | apply qc_) | exact HB.out)) hb); have n1_ := qi_.mk (hbox); have n2_ := qi_.mk ((by rw [hg]; exact (qq_ (by repeat (first | (with_reducible first | exact HB.out | apply qe_ | apply qa_ | apply qc_) | exact HB.out))) : w.heap.size ≤ gb128)); have n3_ := qi_.mk ((by rw [hg]; exact (qq_ (by repeat (first | (with_reducible first | exact HB.out | apply qe_ | apply qa_ | apply qc_) | exact HB.out))) : w.heap.size ≤ gb128)); clear HB; have HB := n0_; have BK128 := n1_; have GW128 := n2_; have GE128 := n3_; clear n0_ n1_ n2_ n3_; clear hb hbox hg) | ((with_reducible refine gate_dst (N := 5) rfl ?_); refine q1_ ?hg (N := 5) ?hd (cs := #[.int .i64 0, .int .i64 0]) (t := 26) ?hr ?_; (case hd => rfl); (case hg => rfl); (case hr => first | (go_simp; done) | (go_simp; rfl)); intro gb129 hg w92 hbox hb; have n0_ := qi_.mk (qn_ (g := gb128) (o := .cells #[.slice A0_0 l0_0.length c0_0] 41 (0, 0)) (by (with_reducible repeat (first | refine qd_ ?_ _ | refine qh_ ?_)); exact BK128.out) hb); have n1_ := qi_.mk (qr_ (by repeat (first | (with_reducible first | exact HB.out | apply qe_ | apply qa_ | apply qc_ | refine qf_ ?_ GE128.out) | exact HB.out)) hb); have n2_ := qi_.mk (hbox); have n3_ := qi_.mk ((by rw [hg]; exact (qq_ (by repeat (first | (with_reducible first | exact HB.out | apply qe_ | apply qa_ | apply qc_ | refine qf_ ?_ GE128.out) | exact HB.out))) : w.heap.size ≤ gb129)); have n4_ := qi_.mk ((by rw [hg]; exact (qq_ (by repeat (first | (with_reducible first | exact HB.out | apply qe_ | apply qa_ | apply qc_ | refine qf_ ?_ GE128.out) | exact HB.out))) : w.heap.size ≤ gb129)); have n5_ := qi_.mk ((by rw [hg]; exact Nat.ne_of_lt (blk_lt (g := gb128) (o := .cells #[.slice A0_0 l0_0.length c0_0] 41 (0, 0)) (by (with_reducible repeat (first | refine qd_ ?_ _ | refine qh_ ?_)); exact BK128.out)) : gb128 ≠ gb129)); have n6_ := qi_.mk ((by rw [hg]; exact Nat.ne_of_gt (blk_lt (g := gb128) (o := .cells #[.slice A0_0 l0_0.length c0_0] 41 (0, 0)) (by (with_reducible repeat (first | refine qd_ ?_ _ | refine qh_ ?_)); exact BK128.out)) : gb129 ≠ gb128)); clear BK128; clear HB; have BK128 := n0_; have HB := n1_; have BK129 := n2_; have GW129 := n3_; have GE129 := n4_; have NB128_129 := n5_; have NB129_128 := n6_; clear n0_ n1_ n2_ n3_ n4_ n5_ n6_; clear hb hbox hg; have hnb93 := NB128_129.out; have hnc93 := NB129_128.out; have hcz94_0 : w92.cell? ⟨gb128, 0, none⟩ = some (.slice A0_0 l0_0.length c0_0) := (qb_ BK128.out 0).trans rfl; have hfz94_0 := qg_ BK128.out 0) | ((with_reducible refine q2_ (f := 31) rfl ?_); refine goesL_ (some 13) rfl rfl Try.func31 (by kernel_rfl) rfl #[.agg #[.slice A0_0 l0_0.length c0_0]] rfl (by simp only [List.map_toArray]; first | done | rfl | (simp only [List.length_drop, List.length_take]; rfl)) ?_; (with_reducible refine (qw_.calls k _ _ l0_0 t130 t131 _ ?side1 ?side2 A3.out).mono ?_); (case side1 => repeat (first | exact (Kd.C_below HR0_0.out HB.out))); (case side2 => exact HC0_0.out); rintro e w95 ⟨rfl, hb⟩; refine ⟨_, rfl, ?_⟩; have n0_ := qi_.mk (qn_ (g := gb128) (o := .cells #[.slice A0_0 l0_0.length c0_0] 41 (0, 0)) (by (with_reducible repeat (first | refine qd_ ?_ _ | refine qh_ ?_)); exact BK128.out) hb); have n1_ := qi_.mk (qn_ (g := gb129) (o := .cells #[.int .i64 0, .int .i64 0] 26 (0, 0)) (by (with_reducible repeat (first | refine qd_ ?_ _ | refine qh_ ?_)); exact BK129.out) hb); have n2_ := qi_.mk (qr_ (by repeat (first | (with_reducible first | exact HB.out | apply qe_ | apply qa_ | apply qc_ | refine qf_ ?_ GE128.out | refine qf_ ?_ GE129.out) | exact HB.out)) hb); clear BK128; clear BK129; clear HB; have BK128 := n0_; have BK129 := n1_; have HB := n2_; clear n0_ n1_ n2_; (try clear hb)) | ((with_reducible refine gate_dst (N := 6) rfl ?_); refine q1_ ?hg (N := 6) ?hd (cs := #[.int .i64 0, .int .i64 0]) (t := 26) ?hr ?_; (case hd => rfl); (case hg => rfl); (case hr => first | (go_simp; done) | (go_simp; rfl)); intro gb132 hg w96 hbox hb; have n0_ := qi_.mk (qn_ (g := gb128) (o := .cells #[.slice A0_0 l0_0.length c0_0] 41 (0, 0)) (by (with_reducible repeat (first | refine qd_ ?_ _ | refine qh_ ?_)); exact BK128.out) hb); have n1_ := qi_.mk (qn_ (g := gb129) (o := .cells #[.int .i64 0, .int .i64 0] 26 (0, 0)) (by (with_reducible repeat (first | refine qd_ ?_ _ | refine qh_ ?_)); exact BK129.out) hb); have n2_ := qi_.mk (qr_ (by repeat (first | (with_reducible first | exact HB.out | apply qe_ | apply qa_ | apply qc_ | refine qf_ ?_ GE128.out | refine qf_ ?_ GE129.out) | exact HB.out)) hb); have n3_ := qi_.mk (hbox); have n4_ := qi_.mk ((by rw [hg]; exact (qq_ (by repeat (first | (with_reducible first | exact HB.out | apply qe_ | apply qa_ | apply qc_ | refine qf_ ?_ GE128.out | refine qf_ ?_ GE129.out) | exact HB.out))) : w.heap.size ≤ gb132)); have n5_ := qi_.mk ((by rw [hg]; exact (qq_ (by repeat (first | (with_reducible first | exact HB.out | apply qe_ | apply qa_ | apply qc_ | refine qf_ ?_ GE128.out | refine qf_ ?_ GE129.out) | exact HB.out))) : w.heap.size ≤ gb132)); have n6_ := qi_.mk ((by rw [hg]; exact Nat.ne_of_lt (blk_lt (g := gb128) (o := .cells #[.slice A0_0 l0_0.length c0_0] 41 (0, 0)) (by (with_reducible repeat (first | refine qd_ ?_ _ | refine qh_ ?_)); exact BK128.out)) : gb128 ≠ gb132)); have n7_ := qi_.mk ((by rw [hg]; exact Nat.ne_of_gt (blk_lt (g := gb128) (o := .cells #[.slice A0_0 l0_0.length c0_0] 41 (0, 0)) (by (with_reducible repeat (first | refine qd_ ?_ _ | refine qh_ ?_)); exact BK128.out)) : gb132 ≠ gb128)); have n8_ := qi_.mk ((by rw [hg]; exact Nat.ne_of_lt (blk_lt (g := gb129) (o := .cells #[.int .i64 0, .int .i64 0] 26 (0, 0)) (by (with_reducible repeat (first | refine qd_ ?_ _ | refine qh_ ?_)); exact BK129.out)) : gb129 ≠ gb132)); have n9_ := qi_.mk ((by rw [hg]; exact Nat.ne_of_gt (blk_lt (g := gb129) (o := .cells #[.int .i64 0, .int .i64 0] 26 (0, 0)) (by (with_reducible repeat (first | refine qd_ ?_ _ | refine qh_ ?_)); exact BK129.out)) : gb132 ≠ gb129)); clear BK128; clear BK129; clear HB; have BK128 := n0_; have BK129 := n1_; have HB := n2_; have BK132 := n3_; have GW132 := n4_; have GE132 := n5_; have NB128_132 := n6_; have NB132_128 := n7_; have NB129_132 := n8_; have NB132_129 := n9_; clear n0_ n1_ n2_ n3_ n4_ n5_ n6_ n7_ n8_ n9_; clear hb hbox hg; have hnb97 := NB132_128.out; have hnc97 := NB128_132.out; have hnb98 := NB132_129.out; have hnc98 := NB129_132.out; have hcz99_0 : w96.cell? ⟨gb132, 0, none⟩ = some (.int .i64 0) := (qb_ BK132.out 0).trans rfl; have hcz99_1 : w96.cell? ⟨gb132, 1, none⟩ = some (.int .i64 0) := (qb_ BK132.out 1).trans rfl; have hfz99_0 := qg_ BK132.out 0; have hfz99_1 := qg_ BK132.out 1) | ((with_reducible refine q2_ (f := 16) rfl ?_); refine goesL_ (some 19) rfl rfl Try.func16 (by kernel_rfl) rfl #[.slice A1 l1.length c1] rfl (by simp only [List.map_toArray]; first | done | rfl | (simp only [List.length_drop, List.length_take]; rfl)) ?_; (with_reducible refine (lines_Code.calls k _ _ l1 t133 _ ?side1 ?side2 A5.out).mono ?_); (case side1 => exact Kd.C_below HR1.out (by repeat (first | (with_reducible first | exact HB.out | apply qe_ | apply qa_ | apply qc_ | refine qf_ ?_ GE128.out | refine qf_ ?_ GE129.out | refine qf_ ?_ GE132.out) | exact HB.out))); (case side2 => exact HC1.out); rintro e w100 ⟨rfl, hb⟩; refine ⟨_, rfl, ?_⟩; have n0_ := qi_.mk (qn_ (g := gb128) (o := .cells #[.slice A0_0 l0_0.length c0_0] 41 (0, 0)) (by (with_reducible repeat (first | refine qd_ ?_ _ | refine qh_ ?_)); refine q7_ ?_ NB128_132.out _; (with_reducible repeat (first | refine qd_ ?_ _ | refine qh_ ?_)); refine q7_ ?_ NB128_132.out _; (with_reducible repeat (first | refine qd_ ?_ _ | refine qh_ ?_)); exact BK128.out) hb); have n1_ := qi_.mk (qn_ (g := gb129) (o := .cells #[.int .i64 0, .int .i64 0] 26 (0, 0)) (by (with_reducible repeat (first | refine qd_ ?_ _ | refine qh_ ?_)); refine q7_ ?_ NB129_132.out _; (with_reducible repeat (first | refine qd_ ?_ _ | refine qh_ ?_)); refine q7_ ?_ NB129_132.out _; (with_reducible repeat (first | refine qd_ ?_ _ | refine qh_ ?_)); exact BK129.out) hb); have n2_ := qi_.mk (qn_ (g := gb132) (o := .cells #[.int .i64 t130, .int .i64 t131] 26 (0, 0)) (by (with_reducible repeat (first | refine qd_ ?_ _ | refine qh_ ?_)); refine q6_ (cs := #[.int .i64 t130, .int .i64 0]) ?_ 1 _ rfl; (with_reducible repeat (first | refine qd_ ?_ _ | refine qh_ ?_)); refine q6_ (cs := #[.int .i64 0, .int .i64 0]) ?_ 0 _ rfl; (with_reducible repeat (first | refine qd_ ?_ _ | refine qh_ ?_)); exact BK132.out) hb); have n3_ := qi_.mk (qr_ (by repeat (first | (with_reducible first | exact HB.out | apply qe_ | apply qa_ | apply qc_ | refine qf_ ?_ GE128.out | refine qf_ ?_ GE129.out | refine qf_ ?_ GE132.out) | exact HB.out)) hb); clear BK128; clear BK129; clear BK132; clear HB; have BK128 := n0_; have BK129 := n1_; have BK132 := n2_; have HB := n3_; clear n0_ n1_ n2_ n3_; (try clear hb); have hcz101_0 : w100.cell? ⟨gb129, 0, none⟩ = some (.int .i64 0) := (qb_ BK129.out 0).trans rfl; have hcz101_1 : w100.cell? ⟨gb129, 1, none⟩ = some (.int .i64 0) := (qb_ BK129.out 1).trans rfl; have hfz101_0 := qg_ BK129.out 0; have hfz101_1 := qg_ BK129.out 1))
   refine bodyPost_ret (results_tc rfl _ _ gb129 26 #[.int .i64 t133, .int .i64 (-2)] (0, 0) _ rfl (by (with_reducible repeat (first | refine qd_ ?_ _ | refine qh_ ?_)); refine q6_ (cs := #[.int .i64 t133, .int .i64 0]) ?_ 1 _ rfl; (with_reducible repeat (first | refine qd_ ?_ _ | refine qh_ ?_)); refine q6_ (cs := #[.int .i64 0, .int .i64 0]) ?_ 0 _ rfl; (with_reducible repeat (first | refine qd_ ?_ _ | refine qh_ ?_)); exact BK129.out) Try.underlying26 rfl (by kernel_rfl)) rfl ?_
   exact ⟨_, by first | rfl | (simp [*] <;> rfl), by first | exact Kd.R_nil _ _ _ _ _ | exact Kd.N_nil _ _ _ _ _ | exact Kd.V_nil _ _ _ _ _ | exact Kd.Q_nil _ _ _ _ _ | exact Kd.S_nil _ _ _ _ _, by repeat (first | (with_reducible first | exact HB.out | apply qe_ | apply qa_ | apply qc_ | refine qf_ ?_ GE128.out | refine qf_ ?_ GE129.out | refine qf_ ?_ GE132.out) | exact HB.out)⟩
 ·rw [if_neg c4] at H
  have c4b0 : (t130 == 0 && (t131 == 0)) = false := by simpa using c4
  have c4b1 : (!(t130 == 0) || (!(t131 == 0))) = true := by have h_ := congrArg not (show (t130 == 0 && (t131 == 0)) = false by simpa using c4); simpa [Bool.not_and] using h_
  clear c4
  simp only [Option.some.injEq, Prod.mk.injEq] at H
  obtain ⟨rfl, rfl, rfl⟩ := H
  go_enter Try.func22, Try.ntmps22
  try go_wp2_with (first | ((with_reducible refine gate_dst (N := 2) rfl ?_); refine q1_ ?hg (N := 2) ?hd (cs := #[.slice A0_0 l0_0.length c0_0]) (t := 41) ?hr ?_; (case hd => rfl); (case hg => rfl); (case hr => first | (go_simp; done) | (go_simp; rfl)); intro gb128 hg w102 hbox hb; have n0_ := qi_.mk (qr_ (by repeat (first | (with_reducible first | exact HB.out | apply qe_ | apply qa_ | apply qc_) | exact HB.out)) hb); have n1_ := qi_.mk (hbox); have n2_ := qi_.mk ((by rw [hg]; exact (qq_ (by repeat (first | (with_reducible first | exact HB.out | apply qe_ | apply qa_ | apply qc_) | exact HB.out))) : w.heap.size ≤ gb128)); have n3_ := qi_.mk ((by rw [hg]; exact (qq_ (by repeat (first | (with_reducible first | exact HB.out | apply qe_ | apply qa_ | apply qc_) | exact HB.out))) : w.heap.size ≤ gb128)); clear HB; have HB := n0_; have BK128 := n1_; have GW128 := n2_; have GE128 := n3_; clear n0_ n1_ n2_ n3_; clear hb hbox hg) | ((with_reducible refine gate_dst (N := 5) rfl ?_); refine q1_ ?hg (N := 5) ?hd (cs := #[.int .i64 0, .int .i64 0]) (t := 26) ?hr ?_; (case hd => rfl); (case hg => rfl); (case hr => first | (go_simp; done) | (go_simp; rfl)); intro gb129 hg w103 hbox hb; have n0_ := qi_.mk (qn_ (g := gb128) (o := .cells #[.slice A0_0 l0_0.length c0_0] 41 (0, 0)) (by (with_reducible repeat (first | refine qd_ ?_ _ | refine qh_ ?_)); exact BK128.out) hb); have n1_ := qi_.mk (qr_ (by repeat (first | (with_reducible first | exact HB.out | apply qe_ | apply qa_ | apply qc_ | refine qf_ ?_ GE128.out) | exact HB.out)) hb); have n2_ := qi_.mk (hbox); have n3_ := qi_.mk ((by rw [hg]; exact (qq_ (by repeat (first | (with_reducible first | exact HB.out | apply qe_ | apply qa_ | apply qc_ | refine qf_ ?_ GE128.out) | exact HB.out))) : w.heap.size ≤ gb129)); have n4_ := qi_.mk ((by rw [hg]; exact (qq_ (by repeat (first | (with_reducible first | exact HB.out | apply qe_ | apply qa_ | apply qc_ | refine qf_ ?_ GE128.out) | exact HB.out))) : w.heap.size ≤ gb129)); have n5_ := qi_.mk ((by rw [hg]; exact Nat.ne_of_lt (blk_lt (g := gb128) (o := .cells #[.slice A0_0 l0_0.length c0_0] 41 (0, 0)) (by (with_reducible repeat (first | refine qd_ ?_ _ | refine qh_ ?_)); exact BK128.out)) : gb128 ≠ gb129)); have n6_ := qi_.mk ((by rw [hg]; exact Nat.ne_of_gt (blk_lt (g := gb128) (o := .cells #[.slice A0_0 l0_0.length c0_0] 41 (0, 0)) (by (with_reducible repeat (first | refine qd_ ?_ _ | refine qh_ ?_)); exact BK128.out)) : gb129 ≠ gb128)); clear BK128; clear HB; have BK128 := n0_; have HB := n1_; have BK129 := n2_; have GW129 := n3_; have GE129 := n4_; have NB128_129 := n5_; have NB129_128 := n6_; clear n0_ n1_ n2_ n3_ n4_ n5_ n6_; clear hb hbox hg; have hnb104 := NB128_129.out; have hnc104 := NB129_128.out; have hcz105_0 : w103.cell? ⟨gb128, 0, none⟩ = some (.slice A0_0 l0_0.length c0_0) := (qb_ BK128.out 0).trans rfl; have hfz105_0 := qg_ BK128.out 0) | ((with_reducible refine q2_ (f := 31) rfl ?_); refine goesL_ (some 13) rfl rfl Try.func31 (by kernel_rfl) rfl #[.agg #[.slice A0_0 l0_0.length c0_0]] rfl (by simp only [List.map_toArray]; first | done | rfl | (simp only [List.length_drop, List.length_take]; rfl)) ?_; (with_reducible refine (qw_.calls k _ _ l0_0 t130 t131 _ ?side1 ?side2 A3.out).mono ?_); (case side1 => repeat (first | exact (Kd.C_below HR0_0.out HB.out))); (case side2 => exact HC0_0.out); rintro e w106 ⟨rfl, hb⟩; refine ⟨_, rfl, ?_⟩; have n0_ := qi_.mk (qn_ (g := gb128) (o := .cells #[.slice A0_0 l0_0.length c0_0] 41 (0, 0)) (by (with_reducible repeat (first | refine qd_ ?_ _ | refine qh_ ?_)); exact BK128.out) hb); have n1_ := qi_.mk (qn_ (g := gb129) (o := .cells #[.int .i64 0, .int .i64 0] 26 (0, 0)) (by (with_reducible repeat (first | refine qd_ ?_ _ | refine qh_ ?_)); exact BK129.out) hb); have n2_ := qi_.mk (qr_ (by repeat (first | (with_reducible first | exact HB.out | apply qe_ | apply qa_ | apply qc_ | refine qf_ ?_ GE128.out | refine qf_ ?_ GE129.out) | exact HB.out)) hb); clear BK128; clear BK129; clear HB; have BK128 := n0_; have BK129 := n1_; have HB := n2_; clear n0_ n1_ n2_; (try clear hb)) | ((with_reducible refine gate_dst (N := 6) rfl ?_); refine q1_ ?hg (N := 6) ?hd (cs := #[.int .i64 0, .int .i64 0]) (t := 26) ?hr ?_; (case hd => rfl); (case hg => rfl); (case hr => first | (go_simp; done) | (go_simp; rfl)); intro gb132 hg w107 hbox hb; have n0_ := qi_.mk (qn_ (g := gb128) (o := .cells #[.slice A0_0 l0_0.length c0_0] 41 (0, 0)) (by (with_reducible repeat (first | refine qd_ ?_ _ | refine qh_ ?_)); exact BK128.out) hb); have n1_ := qi_.mk (qn_ (g := gb129) (o := .cells #[.int .i64 0, .int .i64 0] 26 (0, 0)) (by (with_reducible repeat (first | refine qd_ ?_ _ | refine qh_ ?_)); exact BK129.out) hb); have n2_ := qi_.mk (qr_ (by repeat (first | (with_reducible first | exact HB.out | apply qe_ | apply qa_ | apply qc_ | refine qf_ ?_ GE128.out | refine qf_ ?_ GE129.out) | exact HB.out)) hb); have n3_ := qi_.mk (hbox); have n4_ := qi_.mk ((by rw [hg]; exact (qq_ (by repeat (first | (with_reducible first | exact HB.out | apply qe_ | apply qa_ | apply qc_ | refine qf_ ?_ GE128.out | refine qf_ ?_ GE129.out) | exact HB.out))) : w.heap.size ≤ gb132)); have n5_ := qi_.mk ((by rw [hg]; exact (qq_ (by repeat (first | (with_reducible first | exact HB.out | apply qe_ | apply qa_ | apply qc_ | refine qf_ ?_ GE128.out | refine qf_ ?_ GE129.out) | exact HB.out))) : w.heap.size ≤ gb132)); have n6_ := qi_.mk ((by rw [hg]; exact Nat.ne_of_lt (blk_lt (g := gb128) (o := .cells #[.slice A0_0 l0_0.length c0_0] 41 (0, 0)) (by (with_reducible repeat (first | refine qd_ ?_ _ | refine qh_ ?_)); exact BK128.out)) : gb128 ≠ gb132)); have n7_ := qi_.mk ((by rw [hg]; exact Nat.ne_of_gt (blk_lt (g := gb128) (o := .cells #[.slice A0_0 l0_0.length c0_0] 41 (0, 0)) (by (with_reducible repeat (first | refine qd_ ?_ _ | refine qh_ ?_)); exact BK128.out)) : gb132 ≠ gb128)); have n8_ := qi_.mk ((by rw [hg]; exact Nat.ne_of_lt (blk_lt (g := gb129) (o := .cells #[.int .i64 0, .int .i64 0] 26 (0, 0)) (by (with_reducible repeat (first | refine qd_ ?_ _ | refine qh_ ?_)); exact BK129.out)) : gb129 ≠ gb132)); have n9_ := qi_.mk ((by rw [hg]; exact Nat.ne_of_gt (blk_lt (g := gb129) (o := .cells #[.int .i64 0, .int .i64 0] 26 (0, 0)) (by (with_reducible repeat (first | refine qd_ ?_ _ | refine qh_ ?_)); exact BK129.out)) : gb132 ≠ gb129)); clear BK128; clear BK129; clear HB; have BK128 := n0_; have BK129 := n1_; have HB := n2_; have BK132 := n3_; have GW132 := n4_; have GE132 := n5_; have NB128_132 := n6_; have NB132_128 := n7_; have NB129_132 := n8_; have NB132_129 := n9_; clear n0_ n1_ n2_ n3_ n4_ n5_ n6_ n7_ n8_ n9_; clear hb hbox hg; have hnb108 := NB132_128.out; have hnc108 := NB128_132.out; have hnb109 := NB132_129.out; have hnc109 := NB129_132.out; have hcz110_0 : w107.cell? ⟨gb132, 0, none⟩ = some (.int .i64 0) := (qb_ BK132.out 0).trans rfl; have hcz110_1 : w107.cell? ⟨gb132, 1, none⟩ = some (.int .i64 0) := (qb_ BK132.out 1).trans rfl; have hfz110_0 := qg_ BK132.out 0; have hfz110_1 := qg_ BK132.out 1))
  have n0_ : qi_ (((w107.setCell ⟨gb132, 0, none⟩ (.int .i64 t130)).setCell ⟨gb132, 1, none⟩ (.int .i64 t131)).heap[gb128]? = some (.cells #[.slice A0_0 l0_0.length c0_0] 41 (0, 0))) := ⟨by (with_reducible repeat (first | refine qd_ ?_ _ | refine qh_ ?_)); refine q7_ ?_ NB128_132.out _; (with_reducible repeat (first | refine qd_ ?_ _ | refine qh_ ?_)); refine q7_ ?_ NB128_132.out _; (with_reducible repeat (first | refine qd_ ?_ _ | refine qh_ ?_)); exact BK128.out⟩
  have n1_ : qi_ (((w107.setCell ⟨gb132, 0, none⟩ (.int .i64 t130)).setCell ⟨gb132, 1, none⟩ (.int .i64 t131)).heap[gb129]? = some (.cells #[.int .i64 0, .int .i64 0] 26 (0, 0))) := ⟨by (with_reducible repeat (first | refine qd_ ?_ _ | refine qh_ ?_)); refine q7_ ?_ NB129_132.out _; (with_reducible repeat (first | refine qd_ ?_ _ | refine qh_ ?_)); refine q7_ ?_ NB129_132.out _; (with_reducible repeat (first | refine qd_ ?_ _ | refine qh_ ?_)); exact BK129.out⟩
  have n2_ : qi_ (((w107.setCell ⟨gb132, 0, none⟩ (.int .i64 t130)).setCell ⟨gb132, 1, none⟩ (.int .i64 t131)).heap[gb132]? = some (.cells #[.int .i64 t130, .int .i64 t131] 26 (0, 0))) := ⟨by (with_reducible repeat (first | refine qd_ ?_ _ | refine qh_ ?_)); refine q6_ (cs := #[.int .i64 t130, .int .i64 0]) ?_ 1 _ rfl; (with_reducible repeat (first | refine qd_ ?_ _ | refine qh_ ?_)); refine q6_ (cs := #[.int .i64 0, .int .i64 0]) ?_ 0 _ rfl; (with_reducible repeat (first | refine qd_ ?_ _ | refine qh_ ?_)); exact BK132.out⟩
  have n3_ : qi_ (Below w.heap.size w ((w107.setCell ⟨gb132, 0, none⟩ (.int .i64 t130)).setCell ⟨gb132, 1, none⟩ (.int .i64 t131))) := ⟨by repeat (first | (with_reducible first | exact HB.out | apply qe_ | apply qa_ | apply qc_ | refine qf_ ?_ GE128.out | refine qf_ ?_ GE129.out | refine qf_ ?_ GE132.out) | exact HB.out)⟩
  (try clear BK128)
  (try clear BK129)
  (try clear BK132)
  (try clear HB)
  generalize ((w107.setCell ⟨gb132, 0, none⟩ (.int .i64 t130)).setCell ⟨gb132, 1, none⟩ (.int .i64 t131)) = w111 at n0_ n1_ n2_ n3_ ⊢
  have BK128 := n0_
  have BK129 := n1_
  have BK132 := n2_
  have HB := n3_
  clear n0_ n1_ n2_ n3_
  have n0_ := qi_.mk (qh_ BK128.out)
  have n1_ := qi_.mk (qh_ BK129.out)
  have n2_ := qi_.mk (qh_ BK132.out)
  have n3_ := qi_.mk (qc_ HB.out)
  clear BK128
  clear BK129
  clear BK132
  clear HB
  have BK128 := n0_
  have BK129 := n1_
  have BK132 := n2_
  have HB := n3_
  clear n0_ n1_ n2_ n3_
  refine start_ (n := 3) (S := fun w' => w'.cell? ⟨gb132, 0, none⟩ = some (.int .i64 t130) ∧ w'.cell? ⟨gb132, 1, none⟩ = some (.int .i64 t131)) (ds := []) #[false, false, false] (by kernel_rfl) rfl rfl ⟨(qb_ BK132.out 0).trans rfl, (qb_ BK132.out 1).trans rfl⟩ (fun hHeld => ?_)
  generalize w111.drew = w112 at BK128 BK129 BK132 HB hHeld ⊢
  refine pure_ (i := 1) (N := some 4) (v := ?_) (a' := ?_) #[false, true, false] rfl rfl (by kernel_rfl) (fun _ _ _ h => h) (Or.inl ⟨by rfl, ?_⟩) ?_ ?_
  rotate_left
  ·intro w'
   go_simp
   with_reducible rfl
  rotate_left
  ·simp only [Act.put, List.setIfInBounds_toArray, List.set_cons_zero, List.set_cons_succ, i64_w, i32_w]
   rfl
  refine take_ (i := 0) (N := some 17) (v := ?_) (a' := ?_) #[true, true, false] rfl rfl (by kernel_rfl) (fun _ _ _ h => h) (Or.inl ⟨by rfl, ?_⟩) hHeld ?_ ?_
  rotate_left
  ·rintro w' ⟨s0, s1⟩
   go_simp
   with_reducible rfl
  rotate_left
  ·simp only [Act.put, List.setIfInBounds_toArray, List.set_cons_zero, List.set_cons_succ, i64_w, i32_w]
   rfl
  refine one_ (i := 2) (N := none) #[true, true, true] rfl rfl (by kernel_rfl) (by decide) (fun K hK => ?_)
  have hs113 : w112.cell? ⟨gb129, 0, none⟩ = some (.int .i64 0) := (qb_ BK129.out 0).trans rfl
  have hfs113 := qg_ BK129.out 0
  have hns113_0 := NB128_129.out
  have hns113_2 := NB132_129.out
  have hms113_0 := NB129_128.out
  have hms113_2 := NB129_132.out
  have hs114 : w112.cell? ⟨gb129, 1, none⟩ = some (.int .i64 0) := (qb_ BK129.out 1).trans rfl
  have hfs114 := qg_ BK129.out 1
  have hns114_0 := NB128_129.out
  have hns114_2 := NB132_129.out
  have hms114_0 := NB129_128.out
  have hms114_2 := NB129_132.out
  refine skip_ (w1 := ?_) (by rfl) rfl ?_ ?_
  rotate_left
  ·go_simp
   rfl
  refine hK.out _ _ ⟨((cell_far (p := ⟨gb129, _, none⟩) NB132_129.out _).trans (((cell_far (p := ⟨gb129, _, none⟩) NB132_129.out _).trans (hHeld.1)))), ((cell_far (p := ⟨gb129, _, none⟩) NB132_129.out _).trans (((cell_far (p := ⟨gb129, _, none⟩) NB132_129.out _).trans (hHeld.2))))⟩ (fun hHeld => ?_)
  clear hK K
  refine done_ (by kernel_rfl) ?_
  try go_wp2
  refine bodyPost_ret (results_tc rfl _ _ gb129 26 #[.int .i64 t130, .int .i64 t131] (0, 0) _ rfl (by (with_reducible repeat (first | refine qd_ ?_ _ | refine qh_ ?_)); refine q6_ (cs := #[.int .i64 t130, .int .i64 0]) ?_ 1 _ rfl; (with_reducible repeat (first | refine qd_ ?_ _ | refine qh_ ?_)); refine q6_ (cs := #[.int .i64 0, .int .i64 0]) ?_ 0 _ rfl; (with_reducible repeat (first | refine qd_ ?_ _ | refine qh_ ?_)); exact BK129.out) Try.underlying26 rfl (by kernel_rfl)) rfl ?_
  exact ⟨_, by first | rfl | (simp [*] <;> rfl), by first | exact Kd.R_nil _ _ _ _ _ | exact Kd.N_nil _ _ _ _ _ | exact Kd.V_nil _ _ _ _ _ | exact Kd.Q_nil _ _ _ _ _ | exact Kd.S_nil _ _ _ _ _, by repeat (first | (with_reducible first | exact HB.out | apply qe_ | apply qa_ | apply qc_ | refine qf_ ?_ GE128.out | refine qf_ ?_ GE129.out | refine qf_ ?_ GE132.out) | exact HB.out)⟩

end Go.Proofs.Ytjpdcnaealdbjaa.PTh
