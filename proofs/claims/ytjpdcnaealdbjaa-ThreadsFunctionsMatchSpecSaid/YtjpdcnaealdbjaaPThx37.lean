-- printed by drv.py (a program of this repo, over the kit's printer)
import Derived.Test.YtjpdcnaealdbjaaTf
import Derived.Test.YtjpdcnaealdbjaaPThx0
import Derived.Test.YtjpdcnaealdbjaaPThx11
import Derived.Test.YtjpdcnaealdbjaaPThx21
import Derived.Test.YtjpdcnaealdbjaaPThx31
import Derived.Test.YtjpdcnaealdbjaaPThx33
import Derived.Test.YtjpdcnaealdbjaaPThx36
namespace Go.Proofs.Ytjpdcnaealdbjaa.PTh
open Go.RowKit Go.Proofs.YtjpdcnaealdbjaaW.PrintWords Go.Proofs.YtjpdcnaealdbjaaW.PrintLast Go.Proofs.YtjpdcnaealdbjaaW.PrintMore
attribute [local go_sem] max2_int min2_int max_two min_two max_three min_three max_four min_four   -- for this text's walks alone
set_option linter.unusedVariables false
set_option linter.unusedSimpArgs false

/-! ### qm_: function 12 -/
mutual
def qm_.l0 : Nat → List ByteArray → List (S43) → List (S34) → Int → Option ((List (S34)) × List ByteArray × Int × Int)
 | 0, _, _, _, _ => none
 | k + 1, x0, x1, x7, x8 => if x8 < (x1.length : Int) then (if 0 ≤ x8 then ((qj_.f k ((rd_T43 x1 x8).f0) ((rd_T43 x1 x8).f1) ((rd_T43 x1 x8).f2) ((rd_T43 x1 x8).f3) ((rd_T43 x1 x8).f4) ((rd_T43 x1 x8).f5.f0)).bind fun t279 => (if t279 = 0 then (qm_.j1 k x0 x1 x7 x8 t279 (((rd_T43 x1 x8).f0) == 4)) else (qm_.j1 k x0 x1 x7 x8 t279 false))) else (none)) else (some (x7, x0, 0, 0))
def qm_.j1 : Nat → List ByteArray → List (S43) → List (S34) → Int → Int → Bool → Option ((List (S34)) × List ByteArray × Int × Int)
 | 0, _, _, _, _, _, _ => none
 | k + 1, x0, x1, x7, x8, x9, x44 => if x44 = true then (if 0 ≤ x8 then (if x8 < (x1.length : Int) then ((qy_.f k ((rd_T43 x1 x8).f5.f0) x0).bind fun bt282 => (if bt282.2.1 = 0 then ((changeforgeref7_Follow.f k x7 ((rd_T43 x1 x8).f5.f0)).bind fun t289 => (qm_.l0 k bt282.1 x1 t289 (wrap64 (x8 + 1)))) else ((changeforgeref7_Fault.f bt282.2.1 x8).bind fun bt292 => (some (([] : List (S34)), ([] : List ByteArray), bt292.1, bt292.2))))) else (none)) else (none)) else (if x9 = 0 then (if 0 ≤ x8 then (if x8 < (x1.length : Int) then ((qu_.f k x7 ((rd_T43 x1 x8).f0) ((rd_T43 x1 x8).f1) ((rd_T43 x1 x8).f2) ((rd_T43 x1 x8).f3) ((rd_T43 x1 x8).f4) ((rd_T43 x1 x8).f5.f0) (x0.length : Int)).bind fun bt295 => (if bt295.2 = 0 then (qm_.l0 k x0 x1 bt295.1 (wrap64 (x8 + 1))) else ((changeforgeref7_Fault.f bt295.2 x8).bind fun bt299 => (some (([] : List (S34)), ([] : List ByteArray), bt299.1, bt299.2))))) else (none)) else (none)) else ((changeforgeref7_Fault.f x9 x8).bind fun bt301 => (some (([] : List (S34)), ([] : List ByteArray), bt301.1, bt301.2))))
end
def qm_.f (k : Nat) (l0 : List ByteArray) (l1 : List (S43)) : Option ((List (S34)) × List ByteArray × Int × Int) := (qz_.f k l0).bind fun bt270 => (if bt270.1 = 0 then (if (l1.length : Int) > 30 then ((changeforgeref7_Fault.f 2 (-1)).bind fun bt276 => (some (([] : List (S34)), ([] : List ByteArray), bt276.1, bt276.2))) else (qm_.l0 k l0 l1 ([] : List (S34)) 0)) else ((qz_.f k l0).bind fun bt272 => ((changeforgeref7_Fault.f bt272.1 (-2)).bind fun bt274 => (some (([] : List (S34)), ([] : List ByteArray), bt274.1, bt274.2)))))
theorem qm_.mono_l : ∀ k, (∀ y0 y1 y2 y3, LeO (qm_.l0 k y0 y1 y2 y3) (qm_.l0 (k + 1) y0 y1 y2 y3)) ∧ (∀ y0 y1 y2 y3 y4 y5, LeO (qm_.j1 k y0 y1 y2 y3 y4 y5) (qm_.j1 (k + 1) y0 y1 y2 y3 y4 y5))
 | 0 => ⟨fun _ _ _ _ r h => by simp [qm_.l0] at h, fun _ _ _ _ _ _ r h => by simp [qm_.j1] at h⟩
 | k + 1 => by
  obtain ⟨ih0, ih1⟩ := qm_.mono_l k
  refine ⟨?_, ?_⟩
  ·intro y0 y1 y2 y3
   unfold qm_.l0
   repeat' first
   | (with_reducible exact ih0 _ _ _ _)
   | (with_reducible exact ih1 _ _ _ _ _ _)
   | (with_reducible exact qu_.mono _ _ _ _ _ _ _ _ _)
   | (with_reducible exact qj_.mono _ _ _ _ _ _ _)
   | (with_reducible exact changeforgeref7_Follow.mono _ _ _)
   | (with_reducible exact qz_.mono _ _)
   | (with_reducible exact qy_.mono _ _ _)
   | (with_reducible exact LeO.refl _)
   | (with_reducible exact LeO.none _)
   | (with_reducible refine LeO.ite ?_ ?_)
   | (with_reducible refine LeO.bind ?_ (fun _ => ?_))
   | exact ih0 _ _ _ _
   | exact ih1 _ _ _ _ _ _
   | exact qu_.mono _ _ _ _ _ _ _ _ _
   | exact qj_.mono _ _ _ _ _ _ _
   | exact changeforgeref7_Follow.mono _ _ _
   | exact qz_.mono _ _
   | exact qy_.mono _ _ _
   | exact LeO.none _
   | refine LeO.ite ?_ ?_
   | refine LeO.bind ?_ (fun _ => ?_)
  ·intro y0 y1 y2 y3 y4 y5
   unfold qm_.j1
   repeat' first
   | (with_reducible exact ih0 _ _ _ _)
   | (with_reducible exact ih1 _ _ _ _ _ _)
   | (with_reducible exact qu_.mono _ _ _ _ _ _ _ _ _)
   | (with_reducible exact qj_.mono _ _ _ _ _ _ _)
   | (with_reducible exact changeforgeref7_Follow.mono _ _ _)
   | (with_reducible exact qz_.mono _ _)
   | (with_reducible exact qy_.mono _ _ _)
   | (with_reducible exact LeO.refl _)
   | (with_reducible exact LeO.none _)
   | (with_reducible refine LeO.ite ?_ ?_)
   | (with_reducible refine LeO.bind ?_ (fun _ => ?_))
   | exact ih0 _ _ _ _
   | exact ih1 _ _ _ _ _ _
   | exact qu_.mono _ _ _ _ _ _ _ _ _
   | exact qj_.mono _ _ _ _ _ _ _
   | exact changeforgeref7_Follow.mono _ _ _
   | exact qz_.mono _ _
   | exact qy_.mono _ _ _
   | exact LeO.none _
   | refine LeO.ite ?_ ?_
   | refine LeO.bind ?_ (fun _ => ?_)
theorem qm_.mono : ∀ a0 a1 k, LeO (qm_.f k a0 a1) (qm_.f (k + 1) a0 a1) := by
 intro a0 a1 k
 obtain ⟨ih0, ih1⟩ := qm_.mono_l k
 unfold qm_.f
 repeat' first
   | (with_reducible exact ih0 _ _ _ _)
   | (with_reducible exact ih1 _ _ _ _ _ _)
   | (with_reducible exact qu_.mono _ _ _ _ _ _ _ _ _)
   | (with_reducible exact qj_.mono _ _ _ _ _ _ _)
   | (with_reducible exact changeforgeref7_Follow.mono _ _ _)
   | (with_reducible exact qz_.mono _ _)
   | (with_reducible exact qy_.mono _ _ _)
   | (with_reducible exact LeO.refl _)
   | (with_reducible exact LeO.none _)
   | (with_reducible refine LeO.ite ?_ ?_)
   | (with_reducible refine LeO.bind ?_ (fun _ => ?_))
   | exact ih0 _ _ _ _
   | exact ih1 _ _ _ _ _ _
   | exact qu_.mono _ _ _ _ _ _ _ _ _
   | exact qj_.mono _ _ _ _ _ _ _
   | exact changeforgeref7_Follow.mono _ _ _
   | exact qz_.mono _ _
   | exact qy_.mono _ _ _
   | exact LeO.none _
   | refine LeO.ite ?_ ?_
   | refine LeO.bind ?_ (fun _ => ?_)
set_option maxHeartbeats 8000000 in
set_option maxRecDepth 100000 in
theorem qm_.calls (k : Nat) (P0_ : Nat → Prop) (A0 : Option Addr) (c0 : Nat) (l0 : List ByteArray) (A1 : Option Addr) (c1 : Nat) (l1 : List (S43)) (r1 : List (S34)) (r2 : List ByteArray) (r3 : Int) (r4 : Int) (w : World) (hs0 : Kd.V Kd.string 9 w w.heap.size (fun k_ => P0_ k_) (.slice A0 l0.length c0) l0) (hr1 : Kd.C k43 w A1 l1.length l1) (hc1 : l1.length ≤ c1) (h : qm_.f k l0 l1 = some (r1, r2, r3, r4)) :
  Calls Try.prog 12 #[.slice A0 l0.length c0, .slice A1 l1.length c1] w fun e w' => ∃ v0_ v1_ : Value, e = .returned (.tuple #[v0_, v1_, .agg #[.int .i64 r3, .int .i64 r4]]) ∧ Kd.R k34 34 w' w.heap.size (fun k_ => (w.heap.size ≤ k_)) v0_ r1 ∧ Kd.V Kd.string 9 w' w.heap.size (fun k_ => (P0_ k_ ∨ w.heap.size ≤ k_) ∧ some k_ ≠ (v0_ : Value).ownBlock) v1_ r2 ∧ Below w.heap.size w w' := by
 have hu26 := Try.underlying26
 have hu43 := Try.underlying43
 have hu41 := Try.underlying41
 have hfl26_0 : ∀ (c0_ c1_ : Value) (W : World), (Instr.field 26 (.agg #[c0_, c1_]) 0).run Try.prog W = .ok c0_ W := fun _ _ _ => by kernel_rfl
 have HO0 := qi_.mk (show Kd.V Kd.string 9 w w.heap.size (fun k_ => (P0_ k_ ∨ w.heap.size ≤ k_)) (.slice A0 l0.length c0) l0 from Kd.V_mono hs0 (fun k_ hk => .inl hk))
 have HR1 := qi_.mk hr1
 have HC1 := qi_.mk hc1
 clear hr1 hc1
 have HB := qi_.mk (Below.refl w.heap.size w)
 have H : ((qz_.f k l0).bind fun bt270 => (if bt270.1 = 0 then (if (l1.length : Int) > 30 then ((changeforgeref7_Fault.f 2 (-1)).bind fun bt276 => (some (([] : List (S34)), ([] : List ByteArray), bt276.1, bt276.2))) else (qm_.l0 k l0 l1 ([] : List (S34)) 0)) else ((qz_.f k l0).bind fun bt272 => ((changeforgeref7_Fault.f bt272.1 (-2)).bind fun bt274 => (some (([] : List (S34)), ([] : List ByteArray), bt274.1, bt274.2)))))) = some (r1, r2, r3, r4) := h
 clear h
 replace H := Option.bind_eq_some_iff.mp H
 obtain ⟨⟨t270, t271⟩, A30, H⟩ := H
 replace H : (if t270 = 0 then (if (l1.length : Int) > 30 then ((changeforgeref7_Fault.f 2 (-1)).bind fun bt276 => (some (([] : List (S34)), ([] : List ByteArray), bt276.1, bt276.2))) else (qm_.l0 k l0 l1 ([] : List (S34)) 0)) else ((qz_.f k l0).bind fun bt272 => ((changeforgeref7_Fault.f bt272.1 (-2)).bind fun bt274 => (some (([] : List (S34)), ([] : List ByteArray), bt274.1, bt274.2))))) = some (r1, r2, r3, r4) := H
 have A3 := qi_.mk A30
 clear A30
 by_cases c4 : t270 = 0
 ·rw [if_pos c4] at H
  have c4b0 : (t270 == 0) = true := beq_iff_eq.mpr c4
  have c4b1 : (t270 != 0) = false := bne_eq_false_iff_eq.mpr c4
  clear c4
  by_cases c5 : (l1.length : Int) > 30
  ·rw [if_pos c5] at H
   have c5b0 : decide (30 < (l1.length : Int)) = true := decide_eq_true c5
   have c5b1 : decide (30 < l1.length) = true := decide_eq_true (by omega)
   clear c5
   replace H := Option.bind_eq_some_iff.mp H
   obtain ⟨⟨t276, t277⟩, A60, H⟩ := H
   replace H : (some (([] : List (S34)), ([] : List ByteArray), t276, t277)) = some (r1, r2, r3, r4) := H
   have A6 := qi_.mk A60
   clear A60
   simp only [Option.some.injEq, Prod.mk.injEq] at H
   obtain ⟨rfl, rfl, rfl, rfl⟩ := H
   go_enter Try.func12, Try.ntmps12
   go_wp2_with (first | ((with_reducible refine gate_dst (N := 6) rfl ?_); refine q1_ ?hg (N := 6) ?hd (cs := #[.int .i64 0, .int .i64 0]) (t := 26) ?hr ?_; (case hd => rfl); (case hg => rfl); (case hr => first | (go_simp; done) | (go_simp; rfl)); intro gb269 hg w7 hbox hb; have n0_ := qi_.mk (Kd.V_below (Kd.V_elderB (by exact HO0.out) gb269 (Nat.le_of_eq hg.symm)) hb); have n1_ := qi_.mk (qr_ (by repeat (first | (with_reducible first | exact HB.out | apply qe_ | apply qa_ | apply qc_) | exact HB.out)) hb); have n2_ := qi_.mk (hbox); have n3_ := qi_.mk ((by rw [hg]; exact (qq_ (by repeat (first | (with_reducible first | exact HB.out | apply qe_ | apply qa_ | apply qc_) | exact HB.out))) : w.heap.size ≤ gb269)); have n4_ := qi_.mk ((by rw [hg]; exact (qq_ (by repeat (first | (with_reducible first | exact HB.out | apply qe_ | apply qa_ | apply qc_) | exact HB.out))) : w.heap.size ≤ gb269)); clear HO0; clear HB; have HO0 := n0_; have HB := n1_; have BK269 := n2_; have GW269 := n3_; have GE269 := n4_; clear n0_ n1_ n2_ n3_ n4_; clear hb hbox hg) | ((with_reducible refine q2_ (f := 19) rfl ?_); refine goesL_ (some 13) rfl rfl Try.func19 (by kernel_rfl) rfl #[.slice A0 l0.length c0] rfl (by simp only [List.map_toArray]; first | done | rfl) ?_; (with_reducible refine (qz_.calls k _ _ l0 t270 t271 _ ?side1 ?side2 A3.out).mono ?_); (case side1 => repeat (first | exact (Kd.V_reads' HO0.out).2.2)); (case side2 => exact (Kd.V_reads' HO0.out).2.1); rintro e w8 ⟨rfl, hb⟩; refine ⟨_, rfl, ?_⟩; have n0_ := qi_.mk (Kd.V_below (by exact HO0.out) hb); have n1_ := qi_.mk (qn_ (g := gb269) (o := .cells #[.int .i64 0, .int .i64 0] 26 (0, 0)) (by (with_reducible repeat (first | refine qd_ ?_ _ | refine qh_ ?_)); exact BK269.out) hb); have n2_ := qi_.mk (qr_ (by repeat (first | (with_reducible first | exact HB.out | apply qe_ | apply qa_ | apply qc_ | refine qf_ ?_ GE269.out) | exact HB.out)) hb); clear HO0; clear BK269; clear HB; have HO0 := n0_; have BK269 := n1_; have HB := n2_; clear n0_ n1_ n2_; (try clear hb)) | ((with_reducible refine q2_ (f := 20) rfl ?_); refine goesL_ (some 23) rfl rfl Try.func20 (by kernel_rfl) rfl #[.int .i64 2, .int .i64 (-1)] rfl (by simp only [List.map_toArray]; first | done | rfl) ?_; (with_reducible refine (changeforgeref7_Fault.calls 2 (-1) t276 t277 _ A6.out).mono ?_); rintro e w9 ⟨rfl, hb⟩; refine ⟨_, rfl, ?_⟩; have n0_ := qi_.mk (Kd.V_below (by exact HO0.out) hb); have n1_ := qi_.mk (qn_ (g := gb269) (o := .cells #[.int .i64 0, .int .i64 0] 26 (0, 0)) (by (with_reducible repeat (first | refine qd_ ?_ _ | refine qh_ ?_)); exact BK269.out) hb); have n2_ := qi_.mk (qr_ (by repeat (first | (with_reducible first | exact HB.out | apply qe_ | apply qa_ | apply qc_ | refine qf_ ?_ GE269.out) | exact HB.out)) hb); clear HO0; clear BK269; clear HB; have HO0 := n0_; have BK269 := n1_; have HB := n2_; clear n0_ n1_ n2_; (try clear hb); have hcz10_0 : w9.cell? ⟨gb269, 0, none⟩ = some (.int .i64 0) := (qb_ BK269.out 0).trans rfl; have hcz10_1 : w9.cell? ⟨gb269, 1, none⟩ = some (.int .i64 0) := (qb_ BK269.out 1).trans rfl; have hfz10_0 := qg_ BK269.out 0; have hfz10_1 := qg_ BK269.out 1))
   refine bodyPost_ret (results_list (rs := [.tmp 4, .tmp 5, .cell 6 26]) rfl (by simp) (.tmp (.tmp (.cell gb269 26 #[.int .i64 t276, .int .i64 t277] (0, 0) _ rfl (by (with_reducible repeat (first | refine qd_ ?_ _ | refine qh_ ?_)); refine q6_ (cs := #[.int .i64 t276, .int .i64 0]) ?_ 1 _ rfl; (with_reducible repeat (first | refine qd_ ?_ _ | refine qh_ ?_)); refine q6_ (cs := #[.int .i64 0, .int .i64 0]) ?_ 0 _ rfl; (with_reducible repeat (first | refine qd_ ?_ _ | refine qh_ ?_)); exact BK269.out) Try.underlying26 rfl (by kernel_rfl) .nil)))) rfl ?_
   exact ⟨_, _, by first | rfl | (simp [*] <;> rfl), by first | exact Kd.R_nil _ _ _ _ _ | exact Kd.N_nil _ _ _ _ _ | exact Kd.V_nil _ _ _ _ _ | exact Kd.Q_nil _ _ _ _ _ | exact Kd.S_nil _ _ _ _ _, Kd.V_nil _ _ _ _ _, by repeat (first | (with_reducible first | exact HB.out | apply qe_ | apply qa_ | apply qc_ | refine qf_ ?_ GE269.out) | exact HB.out)⟩
  ·rw [if_neg c5] at H
   have c5b0 : decide (30 < (l1.length : Int)) = false := decide_eq_false c5
   have c5b1 : decide (30 < l1.length) = false := decide_eq_false (by omega)
   clear c5
   have H' := qi_.mk H
   clear H
   go_enter Try.func12, Try.ntmps12
   go_wp2_with (first | ((with_reducible refine gate_dst (N := 6) rfl ?_); refine q1_ ?hg (N := 6) ?hd (cs := #[.int .i64 0, .int .i64 0]) (t := 26) ?hr ?_; (case hd => rfl); (case hg => rfl); (case hr => first | (go_simp; done) | (go_simp; rfl)); intro gb269 hg w11 hbox hb; have n0_ := qi_.mk (Kd.V_below (Kd.V_elderB (by exact HO0.out) gb269 (Nat.le_of_eq hg.symm)) hb); have n1_ := qi_.mk (qr_ (by repeat (first | (with_reducible first | exact HB.out | apply qe_ | apply qa_ | apply qc_) | exact HB.out)) hb); have n2_ := qi_.mk (hbox); have n3_ := qi_.mk ((by rw [hg]; exact (qq_ (by repeat (first | (with_reducible first | exact HB.out | apply qe_ | apply qa_ | apply qc_) | exact HB.out))) : w.heap.size ≤ gb269)); have n4_ := qi_.mk ((by rw [hg]; exact (qq_ (by repeat (first | (with_reducible first | exact HB.out | apply qe_ | apply qa_ | apply qc_) | exact HB.out))) : w.heap.size ≤ gb269)); clear HO0; clear HB; have HO0 := n0_; have HB := n1_; have BK269 := n2_; have GW269 := n3_; have GE269 := n4_; clear n0_ n1_ n2_ n3_ n4_; clear hb hbox hg) | ((with_reducible refine q2_ (f := 19) rfl ?_); refine goesL_ (some 13) rfl rfl Try.func19 (by kernel_rfl) rfl #[.slice A0 l0.length c0] rfl (by simp only [List.map_toArray]; first | done | rfl) ?_; (with_reducible refine (qz_.calls k _ _ l0 t270 t271 _ ?side1 ?side2 A3.out).mono ?_); (case side1 => repeat (first | exact (Kd.V_reads' HO0.out).2.2)); (case side2 => exact (Kd.V_reads' HO0.out).2.1); rintro e w12 ⟨rfl, hb⟩; refine ⟨_, rfl, ?_⟩; have n0_ := qi_.mk (Kd.V_below (by exact HO0.out) hb); have n1_ := qi_.mk (qn_ (g := gb269) (o := .cells #[.int .i64 0, .int .i64 0] 26 (0, 0)) (by (with_reducible repeat (first | refine qd_ ?_ _ | refine qh_ ?_)); exact BK269.out) hb); have n2_ := qi_.mk (qr_ (by repeat (first | (with_reducible first | exact HB.out | apply qe_ | apply qa_ | apply qc_ | refine qf_ ?_ GE269.out) | exact HB.out)) hb); clear HO0; clear BK269; clear HB; have HO0 := n0_; have BK269 := n1_; have HB := n2_; clear n0_ n1_ n2_; (try clear hb)))
   go_loopg [0, 7, 8] k (fun kq v0 v7 v8 w' => ∃ (x0_1 : List ByteArray) (x7_1 : List (S34)) (x8_1 : Int) (x270000_1 : Int) (x270001_1 : Int), v8 = .int .i64 x8_1 ∧ qi_ (qm_.l0 kq x0_1 l1 x7_1 x8_1 = some (r1, r2, r3, r4)) ∧ qi_ (kq ≤ k) ∧ qi_ (Kd.V Kd.string 9 w' w.heap.size (fun k_ => (P0_ k_ ∨ w.heap.size ≤ k_) ∧ some k_ ≠ (v7 : Value).ownBlock ∧ k_ ≠ gb269) v0 x0_1) ∧ qi_ (Kd.R k34 34 w' w.heap.size (fun k_ => (w.heap.size ≤ k_)) v7 x7_1) ∧ qi_ (w'.heap[gb269]? = some (.cells #[.int .i64 x270000_1, .int .i64 x270001_1] 26 (0, 0))) ∧ qi_ (Below w.heap.size w w'))
   case atStart => exact ⟨(l0), (([] : List (S34))), (0), (0), (0), (by first | rfl | (simp; done) | (simp [*]; done)), H', ⟨Nat.le_refl _⟩, ⟨by exact Kd.V_mono HO0.out (fun _ hk => ⟨hk.1, ⟨(by simp [Value.ownBlock]), hk.2⟩⟩)⟩, ⟨by first | exact Kd.R_nil _ _ _ _ _ | exact Kd.N_nil _ _ _ _ _ | exact Kd.V_nil _ _ _ _ _ | exact Kd.Q_nil _ _ _ _ _ | exact Kd.S_nil _ _ _ _ _⟩, ⟨by (with_reducible repeat (first | refine qd_ ?_ _ | refine qh_ ?_)); exact BK269.out⟩, ⟨by repeat (first | (with_reducible first | exact HB.out | apply qe_ | apply qa_ | apply qc_ | refine qf_ ?_ GE269.out) | exact HB.out)⟩⟩
   case round =>
    clear H'
    try clear c1
    try clear c2
    try clear p2
    try clear c4
    try clear c4b0
    try clear c4b1
    try clear c5
    try clear c5b0
    try clear c5b1
    try clear c12
    try clear hcz10_0
    try clear hcz10_1
    try clear hfz10_0
    try clear hfz10_1
    obtain ⟨x0_1, x7_1, x8_1, x270000_1, x270001_1, rfl, HA, HK1, HO_0, HO_7, BK269, HB⟩ := hrel
    cases gk with
    | zero => exact absurd HA.out (by simp [qm_.l0])
    | succ k1 =>
     have H := HA.out
     clear HA
     simp only [qm_.l0] at H
     by_cases c13 : x8_1 < (l1.length : Int)
     ·rw [if_pos c13] at H
      have c13b0 : decide (x8_1 < (l1.length : Int)) = true := decide_eq_true c13
      clear c13
      by_cases c14 : 0 ≤ x8_1
      ·rw [if_pos c14] at H
       have c14b0 : decide (0 ≤ x8_1) = true := decide_eq_true c14
       clear c14
       replace H := Option.bind_eq_some_iff.mp H
       obtain ⟨t279, A150, H⟩ := H
       replace H : (if t279 = 0 then (qm_.j1 k1 x0_1 l1 x7_1 x8_1 t279 (((rd_T43 l1 x8_1).f0) == 4)) else (qm_.j1 k1 x0_1 l1 x7_1 x8_1 t279 false)) = some (r1, r2, r3, r4) := H
       have A15 := qi_.mk A150
       clear A150
       have HC16 := qi_.mk H
       clear H
       have p278 : 0 ≤ (x8_1 : Int) := of_decide_eq_true (by assumption)
       have q278 : x8_1 < (l1.length : Int) := of_decide_eq_true (by assumption)
       obtain ⟨ad278, A278_5, c278_5, e278, hx278_0, hx278_1, hx278_2, hx278_3, hx278_4, hx278_5, hl278_5, hi278_5⟩ := at_T43 HR1.out x8_1 p278 q278
       cases e278
       replace hx278_0 := (HB.out.cell (World.block_lt_of_cell? w _ hx278_0)).trans hx278_0
       replace hx278_1 := (HB.out.cell (World.block_lt_of_cell? w _ hx278_1)).trans hx278_1
       replace hx278_2 := (HB.out.cell (World.block_lt_of_cell? w _ hx278_2)).trans hx278_2
       replace hx278_3 := (HB.out.cell (World.block_lt_of_cell? w _ hx278_3)).trans hx278_3
       replace hx278_4 := (HB.out.cell (World.block_lt_of_cell? w _ hx278_4)).trans hx278_4
       replace hx278_5 := (HB.out.cell (World.block_lt_of_cell? w _ hx278_5)).trans hx278_5
       have HR278_5 := qi_.mk hi278_5
       have HC278_5 := qi_.mk hl278_5
       clear hi278_5 hl278_5
       replace p278 := eq_true p278
       replace q278 := eq_true q278
       go_upto_region 10 with (first | ((with_reducible refine q2_ (f := 21) rfl ?_); refine goesL_ (some 34) rfl rfl Try.func21 (by kernel_rfl) rfl #[.agg #[.int .i64 ((rd_T43 l1 x8_1).f0), .int .i64 ((rd_T43 l1 x8_1).f1), .int .i64 ((rd_T43 l1 x8_1).f2), .int .i64 ((rd_T43 l1 x8_1).f3), .string ((rd_T43 l1 x8_1).f4), .slice A278_5 ((rd_T43 l1 x8_1).f5.f0).length c278_5]] rfl (by simp only [List.map_toArray]; first | done | rfl) ?_; (with_reducible refine (qj_.calls k1 ((rd_T43 l1 x8_1).f0) ((rd_T43 l1 x8_1).f1) ((rd_T43 l1 x8_1).f2) ((rd_T43 l1 x8_1).f3) ((rd_T43 l1 x8_1).f4) _ _ ((rd_T43 l1 x8_1).f5.f0) t279 _ ?side1 ?side2 A15.out).mono ?_); (case side1 => repeat (first | exact (Kd.C_below HR278_5.out HB.out))); (case side2 => exact HC278_5.out); rintro e w17 ⟨rfl, hb⟩; refine ⟨_, rfl, ?_⟩; have n0_ := qi_.mk (Kd.V_below (by exact HO_0.out) hb); have n1_ := qi_.mk (Kd.R_below (by (with_reducible repeat (first | apply Kd.qo_ | apply Kd.qp_)); exact HO_7.out) hb); have n2_ := qi_.mk (qn_ (g := gb269) (o := .cells #[.int .i64 x270000_1, .int .i64 x270001_1] 26 (0, 0)) (by (with_reducible repeat (first | refine qd_ ?_ _ | refine qh_ ?_)); exact BK269.out) hb); have n3_ := qi_.mk (qr_ (by repeat (first | (with_reducible first | exact HB.out | apply qe_ | apply qa_ | apply qc_ | refine qf_ ?_ GE269.out) | exact HB.out)) hb); clear HO_0; clear HO_7; clear BK269; clear HB; have HO_0 := n0_; have HO_7 := n1_; have BK269 := n2_; have HB := n3_; clear n0_ n1_ n2_ n3_; (try clear hb)))
       (try simp only [Act.put, List.setIfInBounds_toArray, List.set_cons_zero, List.set_cons_succ])
       go_cut [44] (fun v44 wc => ∃ (kq : Nat) (x44_15 : Bool), v44 = .bool x44_15 ∧ qi_ (qm_.j1 kq x0_1 l1 x7_1 x8_1 t279 x44_15 = some (r1, r2, r3, r4)) ∧ qi_ (kq ≤ k1) ∧ qi_ (Kd.V Kd.string 9 wc w.heap.size (fun k_ => (P0_ k_ ∨ w.heap.size ≤ k_) ∧ some k_ ≠ (u7 : Value).ownBlock ∧ k_ ≠ gb269) u0 x0_1) ∧ qi_ (Kd.R k34 34 wc w.heap.size (fun k_ => (w.heap.size ≤ k_)) u7 x7_1) ∧ qi_ (wc.heap[gb269]? = some (.cells #[.int .i64 x270000_1, .int .i64 x270001_1] 26 (0, 0))) ∧ qi_ (Below w.heap.size w wc))
       case first =>
        have H := HC16.out
        clear HC16
        by_cases c18 : t279 = 0
        ·rw [if_pos c18] at H
         have c18b0 : (t279 == 0) = true := beq_iff_eq.mpr c18
         have c18b1 : (t279 != 0) = false := bne_eq_false_iff_eq.mpr c18
         clear c18
         (first | rw [c18b0] | (simp only [i64_w, i32_w]; rw [c18b0]) | skip)
         have H' := qi_.mk H
         clear H
         have p280 : 0 ≤ (x8_1 : Int) := of_decide_eq_true (by assumption)
         have q280 : x8_1 < (l1.length : Int) := of_decide_eq_true (by assumption)
         obtain ⟨ad280, A280_5, c280_5, e280, hx280_0, hx280_1, hx280_2, hx280_3, hx280_4, hx280_5, hl280_5, hi280_5⟩ := at_T43 HR1.out x8_1 p280 q280
         obtain rfl : ad278 = ad280 := (by injection e280)
         replace hx280_0 := (HB.out.cell (World.block_lt_of_cell? w _ hx280_0)).trans hx280_0
         replace hx280_1 := (HB.out.cell (World.block_lt_of_cell? w _ hx280_1)).trans hx280_1
         replace hx280_2 := (HB.out.cell (World.block_lt_of_cell? w _ hx280_2)).trans hx280_2
         replace hx280_3 := (HB.out.cell (World.block_lt_of_cell? w _ hx280_3)).trans hx280_3
         replace hx280_4 := (HB.out.cell (World.block_lt_of_cell? w _ hx280_4)).trans hx280_4
         replace hx280_5 := (HB.out.cell (World.block_lt_of_cell? w _ hx280_5)).trans hx280_5
         have HR280_5 := qi_.mk hi280_5
         have HC280_5 := qi_.mk hl280_5
         clear hi280_5 hl280_5
         replace p280 := eq_true p280
         replace q280 := eq_true q280
         go_wp2
         go_meet
         case rel => exact ⟨_, ((((rd_T43 l1 x8_1).f0) == 4)), (by first | rfl | (simp; done) | (simp [*]; done)), H', ⟨by have := HK1.out; first | omega | exact Nat.le_refl _⟩, ⟨by exact HO_0.out⟩, ⟨by (with_reducible repeat (first | apply Kd.qo_ | apply Kd.qp_)); exact HO_7.out⟩, ⟨by (with_reducible repeat (first | refine qd_ ?_ _ | refine qh_ ?_)); exact BK269.out⟩, ⟨by repeat (first | (with_reducible first | exact HB.out | apply qe_ | apply qa_ | apply qc_ | refine qf_ ?_ GE269.out) | exact HB.out)⟩⟩
        ·rw [if_neg c18] at H
         have c18b0 : (t279 == 0) = false := beq_eq_false_iff_ne.mpr c18
         have c18b1 : (t279 != 0) = true := bne_iff_ne.mpr c18
         (first | rw [c18b0] | (simp only [i64_w, i32_w]; rw [c18b0]) | skip)
         have H' := qi_.mk H
         clear H
         go_wp2
         go_meet
         case rel => exact ⟨_, (false), (by first | rfl | (simp; done) | (simp [*]; done)), H', ⟨by have := HK1.out; first | omega | exact Nat.le_refl _⟩, ⟨by exact HO_0.out⟩, ⟨by (with_reducible repeat (first | apply Kd.qo_ | apply Kd.qp_)); exact HO_7.out⟩, ⟨by (with_reducible repeat (first | refine qd_ ?_ _ | refine qh_ ?_)); exact BK269.out⟩, ⟨by repeat (first | (with_reducible first | exact HB.out | apply qe_ | apply qa_ | apply qc_ | refine qf_ ?_ GE269.out) | exact HB.out)⟩⟩
       case rest =>
        clear HC16
        try clear c1
        try clear c2
        try clear p2
        try clear q2
        try clear hx2
        try clear c4
        try clear c4b0
        try clear c4b1
        try clear c5
        try clear c5b0
        try clear c5b1
        try clear c12
        try clear c13
        try clear c13b0
        try clear c14
        try clear c14b0
        try clear c18
        try clear c18b0
        try clear c18b1
        try clear hcz10_0
        try clear hcz10_1
        try clear hfz10_0
        try clear hfz10_1
        try clear hx278_0
        try clear hx278_1
        try clear hx278_2
        try clear hx278_3
        try clear hx278_4
        try clear hx278_5
        try clear hx280_0
        try clear hx280_1
        try clear hx280_2
        try clear hx280_3
        try clear hx280_4
        try clear hx280_5
        try clear p2
        try clear p278
        try clear p280
        try clear q278
        try clear q280
        obtain ⟨kq, x44_15, rfl, HA, HJ15, HO_0, HO_7, BK269, HB⟩ := hcut
        cases kq with
        | zero => exact absurd HA.out (by simp [qm_.j1])
        | succ kj15 =>
         have H := HA.out
         clear HA
         simp only [qm_.j1] at H
         by_cases c19 : x44_15 = true
         ·subst c19
          have H1 : (if 0 ≤ x8_1 then (if x8_1 < (l1.length : Int) then ((qy_.f kj15 ((rd_T43 l1 x8_1).f5.f0) x0_1).bind fun bt282 => (if bt282.2.1 = 0 then ((changeforgeref7_Follow.f kj15 x7_1 ((rd_T43 l1 x8_1).f5.f0)).bind fun t289 => (qm_.l0 kj15 bt282.1 l1 t289 (wrap64 (x8_1 + 1)))) else ((changeforgeref7_Fault.f bt282.2.1 x8_1).bind fun bt292 => (some (([] : List (S34)), ([] : List ByteArray), bt292.1, bt292.2))))) else (none)) else (none)) = some (r1, r2, r3, r4) := by rw [if_pos rfl] at H; exact H
          clear H
          have H := H1
          clear H1
          by_cases c20 : 0 ≤ x8_1
          ·rw [if_pos c20] at H
           have c20b0 : decide (0 ≤ x8_1) = true := decide_eq_true c20
           clear c20
           by_cases c21 : x8_1 < (l1.length : Int)
           ·rw [if_pos c21] at H
            have c21b0 : decide (x8_1 < (l1.length : Int)) = true := decide_eq_true c21
            clear c21
            replace H := Option.bind_eq_some_iff.mp H
            obtain ⟨⟨t282, t285, t286⟩, A220, H⟩ := H
            replace H : (if t285 = 0 then ((changeforgeref7_Follow.f kj15 x7_1 ((rd_T43 l1 x8_1).f5.f0)).bind fun t289 => (qm_.l0 kj15 t282 l1 t289 (wrap64 (x8_1 + 1)))) else ((changeforgeref7_Fault.f t285 x8_1).bind fun bt292 => (some (([] : List (S34)), ([] : List ByteArray), bt292.1, bt292.2)))) = some (r1, r2, r3, r4) := H
            have A22 := qi_.mk A220
            clear A220
            by_cases c23 : t285 = 0
            ·rw [if_pos c23] at H
             have c23b0 : (t285 == 0) = true := beq_iff_eq.mpr c23
             have c23b1 : (t285 != 0) = false := bne_eq_false_iff_eq.mpr c23
             clear c23
             replace H := Option.bind_eq_some_iff.mp H
             obtain ⟨t289, A240, H⟩ := H
             replace H : (qm_.l0 kj15 t282 l1 t289 (wrap64 (x8_1 + 1))) = some (r1, r2, r3, r4) := H
             have A24 := qi_.mk A240
             clear A240
             have H' := qi_.mk H
             clear H
             have p281 : 0 ≤ (x8_1 : Int) := of_decide_eq_true (by assumption)
             have q281 : x8_1 < (l1.length : Int) := of_decide_eq_true (by assumption)
             obtain ⟨ad281, A281_5, c281_5, e281, hx281_0, hx281_1, hx281_2, hx281_3, hx281_4, hx281_5, hl281_5, hi281_5⟩ := at_T43 HR1.out x8_1 p281 q281
             obtain rfl : ad278 = ad281 := (by injection e281)
             replace hx281_0 := (HB.out.cell (World.block_lt_of_cell? w _ hx281_0)).trans hx281_0
             replace hx281_1 := (HB.out.cell (World.block_lt_of_cell? w _ hx281_1)).trans hx281_1
             replace hx281_2 := (HB.out.cell (World.block_lt_of_cell? w _ hx281_2)).trans hx281_2
             replace hx281_3 := (HB.out.cell (World.block_lt_of_cell? w _ hx281_3)).trans hx281_3
             replace hx281_4 := (HB.out.cell (World.block_lt_of_cell? w _ hx281_4)).trans hx281_4
             replace hx281_5 := (HB.out.cell (World.block_lt_of_cell? w _ hx281_5)).trans hx281_5
             have HR281_5 := qi_.mk hi281_5
             have HC281_5 := qi_.mk hl281_5
             clear hi281_5 hl281_5
             replace p281 := eq_true p281
             replace q281 := eq_true q281
             obtain ⟨Ao25, co25, eo25⟩ := Kd.V_slice HO_0.out
             subst eo25
             go_wp2_with (first | ((with_reducible refine q2_ (f := 22) rfl ?_); refine goesL_ (some 52) rfl rfl Try.func22 (by kernel_rfl) rfl #[.agg #[.slice A281_5 ((rd_T43 l1 x8_1).f5.f0).length c281_5], .slice Ao25 x0_1.length co25] rfl (by simp only [List.map_toArray]; first | done | rfl) ?_; (with_reducible refine (qy_.calls kj15 _ _ ((rd_T43 l1 x8_1).f5.f0) _ _ x0_1 t282 t285 t286 _ ?side1 ?side2 ?side3 ?side4 A22.out).mono ?_); (case side1 => repeat (first | exact (Kd.C_below HR281_5.out HB.out))); (case side2 => exact HC281_5.out); (case side3 => repeat (first | exact (Kd.V_reads' HO_0.out).2.2)); (case side4 => exact (Kd.V_reads' HO_0.out).2.1); rintro e w26 ⟨v283, rfl, ho0, hb⟩; refine ⟨_, rfl, ?_⟩; have n0_ := qi_.mk (Kd.V_elder' (by exact HO_0.out) (Kd.R_base ho0) hb); have n1_ := qi_.mk (Kd.R_below (by (with_reducible repeat (first | apply Kd.qo_ | apply Kd.qp_)); exact HO_7.out) hb); have n2_ := qi_.mk (Kd.R_lower (Kd.R_newM (M := fun k_ => (w.heap.size ≤ k_)) ho0 (qq_ (by repeat (first | (with_reducible first | exact HB.out | apply qe_ | apply qa_ | apply qc_ | refine qf_ ?_ GE269.out) | exact HB.out))) (fun k_ h_ => h_)) (qq_ (by repeat (first | (with_reducible first | exact HB.out | apply qe_ | apply qa_ | apply qc_ | refine qf_ ?_ GE269.out) | exact HB.out)))); have n3_ := qi_.mk (qn_ (g := gb269) (o := .cells #[.int .i64 x270000_1, .int .i64 x270001_1] 26 (0, 0)) (by (with_reducible repeat (first | refine qd_ ?_ _ | refine qh_ ?_)); exact BK269.out) hb); have n4_ := qi_.mk (qr_ (by repeat (first | (with_reducible first | exact HB.out | apply qe_ | apply qa_ | apply qc_ | refine qf_ ?_ GE269.out) | exact HB.out)) hb); clear HO_0; clear HO_7; clear BK269; clear HB; have HO_0 := n0_; have HO_7 := n1_; have HO284 := n2_; have BK269 := n3_; have HB := n4_; clear n0_ n1_ n2_ n3_ n4_; (try clear hb); (try clear ho0)) | ((with_reducible refine gate_dst (N := 11) rfl ?_); refine q1_ ?hg (N := 11) ?hd (cs := #[.int .i64 0, .int .i64 0]) (t := 26) ?hr ?_; (case hd => rfl); (case hg => rfl); (case hr => first | (go_simp; done) | (go_simp; rfl)); intro gb287 hg w27 hbox hb; have n0_ := qi_.mk (Kd.V_below (Kd.V_elderB (by exact HO_0.out) gb287 (Nat.le_of_eq hg.symm)) hb); have n1_ := qi_.mk (Kd.R_below (by (with_reducible repeat (first | apply Kd.qo_ | apply Kd.qp_)); exact HO_7.out) hb); have n2_ := qi_.mk (Kd.R_below (by (with_reducible repeat (first | apply Kd.qo_ | apply Kd.qp_)); exact HO284.out) hb); have n3_ := qi_.mk (qn_ (g := gb269) (o := .cells #[.int .i64 x270000_1, .int .i64 x270001_1] 26 (0, 0)) (by (with_reducible repeat (first | refine qd_ ?_ _ | refine qh_ ?_)); exact BK269.out) hb); have n4_ := qi_.mk (qr_ (by repeat (first | (with_reducible first | exact HB.out | apply qe_ | apply qa_ | apply qc_ | refine qf_ ?_ GE269.out) | exact HB.out)) hb); have n5_ := qi_.mk (hbox); have n6_ := qi_.mk ((by rw [hg]; exact (qq_ (by repeat (first | (with_reducible first | exact HB.out | apply qe_ | apply qa_ | apply qc_ | refine qf_ ?_ GE269.out) | exact HB.out))) : w.heap.size ≤ gb287)); have n7_ := qi_.mk ((by rw [hg]; exact (qq_ (by repeat (first | (with_reducible first | exact HB.out | apply qe_ | apply qa_ | apply qc_ | refine qf_ ?_ GE269.out) | exact HB.out))) : w.heap.size ≤ gb287)); have n8_ := qi_.mk ((by rw [hg]; exact Nat.ne_of_lt (blk_lt (g := gb269) (o := .cells #[.int .i64 x270000_1, .int .i64 x270001_1] 26 (0, 0)) (by (with_reducible repeat (first | refine qd_ ?_ _ | refine qh_ ?_)); exact BK269.out)) : gb269 ≠ gb287)); have n9_ := qi_.mk ((by rw [hg]; exact Nat.ne_of_gt (blk_lt (g := gb269) (o := .cells #[.int .i64 x270000_1, .int .i64 x270001_1] 26 (0, 0)) (by (with_reducible repeat (first | refine qd_ ?_ _ | refine qh_ ?_)); exact BK269.out)) : gb287 ≠ gb269)); clear HO_0; clear HO_7; clear HO284; clear BK269; clear HB; have HO_0 := n0_; have HO_7 := n1_; have HO284 := n2_; have BK269 := n3_; have HB := n4_; have BK287 := n5_; have GW287 := n6_; have GE287 := n7_; have NB269_287 := n8_; have NB287_269 := n9_; clear n0_ n1_ n2_ n3_ n4_ n5_ n6_ n7_ n8_ n9_; clear hb hbox hg; have hnb28 := NB287_269.out; have hnc28 := NB269_287.out; have hcz29_0 : w27.cell? ⟨gb287, 0, none⟩ = some (.int .i64 0) := (qb_ BK287.out 0).trans rfl; have hcz29_1 : w27.cell? ⟨gb287, 1, none⟩ = some (.int .i64 0) := (qb_ BK287.out 1).trans rfl; have hfz29_0 := qg_ BK287.out 0; have hfz29_1 := qg_ BK287.out 1; have p288 : 0 ≤ (x8_1 : Int) := of_decide_eq_true (by assumption); have q288 : x8_1 < (l1.length : Int) := of_decide_eq_true (by assumption); obtain ⟨ad288, A288_5, c288_5, e288, hx288_0, hx288_1, hx288_2, hx288_3, hx288_4, hx288_5, hl288_5, hi288_5⟩ := at_T43 HR1.out x8_1 p288 q288; obtain rfl : ad278 = ad288 := (by injection e288); have hn288_0 : ad278.block ≠ gb287 := Nat.ne_of_lt (Nat.lt_of_lt_of_le (by have := World.block_lt_of_cell? _ _ hx288_0; first | rwa [add_block] at this | exact this) GW287.out); have hn288_1 : ad278.block ≠ gb287 := Nat.ne_of_lt (Nat.lt_of_lt_of_le (by have := World.block_lt_of_cell? _ _ hx288_0; first | rwa [add_block] at this | exact this) GW287.out); replace hx288_0 := (HB.out.cell (World.block_lt_of_cell? w _ hx288_0)).trans hx288_0; replace hx288_1 := (HB.out.cell (World.block_lt_of_cell? w _ hx288_1)).trans hx288_1; replace hx288_2 := (HB.out.cell (World.block_lt_of_cell? w _ hx288_2)).trans hx288_2; replace hx288_3 := (HB.out.cell (World.block_lt_of_cell? w _ hx288_3)).trans hx288_3; replace hx288_4 := (HB.out.cell (World.block_lt_of_cell? w _ hx288_4)).trans hx288_4; replace hx288_5 := (HB.out.cell (World.block_lt_of_cell? w _ hx288_5)).trans hx288_5; have HR288_5 := qi_.mk hi288_5; have HC288_5 := qi_.mk hl288_5; clear hi288_5 hl288_5; replace hx288_0 := (cell_far (p := ⟨gb287, 0, none⟩) (by first | (rw [add_block]; exact hn288_0) | (show (Addr.add _ _).block ≠ _; rw [add_block]; exact hn288_0) | exact hn288_0) (.int .i64 t285)).trans hx288_0; replace hx288_1 := (cell_far (p := ⟨gb287, 0, none⟩) (by first | (rw [add_block]; exact hn288_0) | (show (Addr.add _ _).block ≠ _; rw [add_block]; exact hn288_0) | exact hn288_0) (.int .i64 t285)).trans hx288_1; replace hx288_2 := (cell_far (p := ⟨gb287, 0, none⟩) (by first | (rw [add_block]; exact hn288_0) | (show (Addr.add _ _).block ≠ _; rw [add_block]; exact hn288_0) | exact hn288_0) (.int .i64 t285)).trans hx288_2; replace hx288_3 := (cell_far (p := ⟨gb287, 0, none⟩) (by first | (rw [add_block]; exact hn288_0) | (show (Addr.add _ _).block ≠ _; rw [add_block]; exact hn288_0) | exact hn288_0) (.int .i64 t285)).trans hx288_3; replace hx288_4 := (cell_far (p := ⟨gb287, 0, none⟩) (by first | (rw [add_block]; exact hn288_0) | (show (Addr.add _ _).block ≠ _; rw [add_block]; exact hn288_0) | exact hn288_0) (.int .i64 t285)).trans hx288_4; replace hx288_5 := (cell_far (p := ⟨gb287, 0, none⟩) (by first | (rw [add_block]; exact hn288_0) | (show (Addr.add _ _).block ≠ _; rw [add_block]; exact hn288_0) | exact hn288_0) (.int .i64 t285)).trans hx288_5; replace hx288_0 := (cell_far (p := ⟨gb287, 1, none⟩) (by first | (rw [add_block]; exact hn288_1) | (show (Addr.add _ _).block ≠ _; rw [add_block]; exact hn288_1) | exact hn288_1) (.int .i64 t286)).trans hx288_0; replace hx288_1 := (cell_far (p := ⟨gb287, 1, none⟩) (by first | (rw [add_block]; exact hn288_1) | (show (Addr.add _ _).block ≠ _; rw [add_block]; exact hn288_1) | exact hn288_1) (.int .i64 t286)).trans hx288_1; replace hx288_2 := (cell_far (p := ⟨gb287, 1, none⟩) (by first | (rw [add_block]; exact hn288_1) | (show (Addr.add _ _).block ≠ _; rw [add_block]; exact hn288_1) | exact hn288_1) (.int .i64 t286)).trans hx288_2; replace hx288_3 := (cell_far (p := ⟨gb287, 1, none⟩) (by first | (rw [add_block]; exact hn288_1) | (show (Addr.add _ _).block ≠ _; rw [add_block]; exact hn288_1) | exact hn288_1) (.int .i64 t286)).trans hx288_3; replace hx288_4 := (cell_far (p := ⟨gb287, 1, none⟩) (by first | (rw [add_block]; exact hn288_1) | (show (Addr.add _ _).block ≠ _; rw [add_block]; exact hn288_1) | exact hn288_1) (.int .i64 t286)).trans hx288_4; replace hx288_5 := (cell_far (p := ⟨gb287, 1, none⟩) (by first | (rw [add_block]; exact hn288_1) | (show (Addr.add _ _).block ≠ _; rw [add_block]; exact hn288_1) | exact hn288_1) (.int .i64 t286)).trans hx288_5; clear hn288_0; clear hn288_1; replace p288 := eq_true p288; replace q288 := eq_true q288; obtain ⟨Ao30, co30, eo30⟩ := Kd.R_slice HO_7.out; subst eo30) | ((with_reducible refine q2_ (f := 23) rfl ?_); refine goesL_ (some 65) rfl rfl Try.func23 (by kernel_rfl) rfl #[.slice Ao30 x7_1.length co30, .agg #[.slice A288_5 ((rd_T43 l1 x8_1).f5.f0).length c288_5]] rfl (by simp only [List.map_toArray]; first | done | rfl) ?_; (with_reducible refine (changeforgeref7_Follow.calls kj15 _ _ x7_1 _ _ ((rd_T43 l1 x8_1).f5.f0) t289 _ ?side1 ?side2 ?side3 ?side4 A24.out).mono ?_); (case side1 => refine (Kd.R_reads' (e := 34) (base := w.heap.size) (ok := fun k_ => (w.heap.size ≤ k_)) (n := x7_1.length) (c := co30) ?_).2.2; exact (by (with_reducible repeat (first | apply Kd.qo_ | apply Kd.qp_)); exact (Kd.R_mono (Kd.R_far (p := ⟨gb287, 1, none⟩) (Kd.R_far (p := ⟨gb287, 0, none⟩) (Kd.R_types HO_7.out BK287.out (by decide)) (fun _ hk => hk.2) (.int .i64 t285)) (fun _ hk => hk.2) (.int .i64 t286)) (fun _ h_ => h_.1)))); (case side2 => exact (Kd.R_reads' HO_7.out).2.1); (case side3 => exact Kd.C_below HR288_5.out (by repeat (first | (with_reducible first | exact HB.out | apply qe_ | apply qa_ | apply qc_ | refine qf_ ?_ GE269.out | refine qf_ ?_ GE287.out) | exact HB.out))); (case side4 => exact HC288_5.out); rintro e w31 ⟨v290, rfl, ho0, hb⟩; refine ⟨_, rfl, ?_⟩; have n0_ := qi_.mk (Kd.V_elder' (by exact (Kd.V_mono (Kd.V_far (p := ⟨gb287, 1, none⟩) (Kd.V_far (p := ⟨gb287, 0, none⟩) (Kd.V_mono HO_0.out (fun k_ hk => (⟨hk, hk.2⟩ : _ ∧ k_ ≠ gb287))) (fun _ hk => hk.2) (.int .i64 t285)) (fun _ hk => hk.2) (.int .i64 t286)) (fun _ h_ => h_.1))) (Kd.R_base ho0) hb); have n1_ := qi_.mk (Kd.R_elder' (by (with_reducible repeat (first | apply Kd.qo_ | apply Kd.qp_)); exact (Kd.R_mono (Kd.R_far (p := ⟨gb287, 1, none⟩) (Kd.R_far (p := ⟨gb287, 0, none⟩) (Kd.R_types HO_7.out BK287.out (by decide)) (fun _ hk => hk.2) (.int .i64 t285)) (fun _ hk => hk.2) (.int .i64 t286)) (fun _ h_ => h_.1))) (Kd.R_base ho0) hb); have n2_ := qi_.mk (Kd.R_below (by (with_reducible repeat (first | apply Kd.qo_ | apply Kd.qp_)); exact (Kd.R_mono (Kd.R_far (p := ⟨gb287, 1, none⟩) (Kd.R_far (p := ⟨gb287, 0, none⟩) (Kd.R_types HO284.out BK287.out (by decide)) (fun _ hk => hk.2) (.int .i64 t285)) (fun _ hk => hk.2) (.int .i64 t286)) (fun _ h_ => h_.1))) hb); have n3_ := qi_.mk (Kd.R_lower (Kd.R_new' (Kd.R_newM (M := fun k_ => (w.heap.size ≤ k_)) ho0 (qq_ (by repeat (first | (with_reducible first | exact HB.out | apply qe_ | apply qa_ | apply qc_ | refine qf_ ?_ GE269.out | refine qf_ ?_ GE287.out) | exact HB.out))) (fun k_ h_ => h_)) (Kd.R_lt (by (with_reducible repeat (first | apply Kd.qo_ | apply Kd.qp_)); exact (Kd.R_mono (Kd.R_far (p := ⟨gb287, 1, none⟩) (Kd.R_far (p := ⟨gb287, 0, none⟩) (Kd.R_types HO_7.out BK287.out (by decide)) (fun _ hk => hk.2) (.int .i64 t285)) (fun _ hk => hk.2) (.int .i64 t286)) (fun _ h_ => h_.1))))) (qq_ (by repeat (first | (with_reducible first | exact HB.out | apply qe_ | apply qa_ | apply qc_ | refine qf_ ?_ GE269.out | refine qf_ ?_ GE287.out) | exact HB.out)))); have n4_ := qi_.mk (qn_ (g := gb269) (o := .cells #[.int .i64 x270000_1, .int .i64 x270001_1] 26 (0, 0)) (by (with_reducible repeat (first | refine qd_ ?_ _ | refine qh_ ?_)); refine q7_ ?_ NB269_287.out _; (with_reducible repeat (first | refine qd_ ?_ _ | refine qh_ ?_)); refine q7_ ?_ NB269_287.out _; (with_reducible repeat (first | refine qd_ ?_ _ | refine qh_ ?_)); exact BK269.out) hb); have n5_ := qi_.mk (qn_ (g := gb287) (o := .cells #[.int .i64 t285, .int .i64 t286] 26 (0, 0)) (by (with_reducible repeat (first | refine qd_ ?_ _ | refine qh_ ?_)); refine q6_ (cs := #[.int .i64 t285, .int .i64 0]) ?_ 1 _ rfl; (with_reducible repeat (first | refine qd_ ?_ _ | refine qh_ ?_)); refine q6_ (cs := #[.int .i64 0, .int .i64 0]) ?_ 0 _ rfl; (with_reducible repeat (first | refine qd_ ?_ _ | refine qh_ ?_)); exact BK287.out) hb); have n6_ := qi_.mk (qr_ (by repeat (first | (with_reducible first | exact HB.out | apply qe_ | apply qa_ | apply qc_ | refine qf_ ?_ GE269.out | refine qf_ ?_ GE287.out) | exact HB.out)) hb); clear HO_0; clear HO_7; clear HO284; clear BK269; clear BK287; clear HB; have HO_0 := n0_; have HO_7 := n1_; have HO284 := n2_; have HO291 := n3_; have BK269 := n4_; have BK287 := n5_; have HB := n6_; clear n0_ n1_ n2_ n3_ n4_ n5_ n6_; (try clear hb); (try clear ho0)))
             go_roundg kj15
             case measure => have := HK1.out; have := HJ15.out; omega
             case rel => exact ⟨(t282), (t289), (wrap64 (x8_1 + 1)), (x270000_1), (x270001_1), (by first | rfl | (simp; done) | (simp [*]; done)), H', ⟨by have := HK1.out; have := HJ15.out; omega⟩, ⟨Kd.V_mono (Kd.R_V (by (with_reducible repeat (first | apply Kd.qo_ | apply Kd.qp_)); exact Kd.R_mono (ok' := fun k_ => w.heap.size ≤ k_ ∧ (some k_ ≠ v290.ownBlock ∧ k_ ≠ gb269)) (Kd.R_types (Kd.R_apart' HO284.out (Kd.R_typed HO291.out) (by decide)) BK269.out (by decide)) (fun _ hk => ⟨hk.1.1.1, ⟨hk.1.2, hk.2⟩⟩))) (fun k_ hk => by first | exact ⟨(.inr (hk.1)), hk.2⟩ | exact (.inr (hk)))⟩, ⟨by (with_reducible repeat (first | apply Kd.qo_ | apply Kd.qp_)); exact Kd.R_mono HO291.out (fun _ hk => hk.1.1)⟩, ⟨by (with_reducible repeat (first | refine qd_ ?_ _ | refine qh_ ?_)); exact BK269.out⟩, ⟨by repeat (first | (with_reducible first | exact HB.out | apply qe_ | apply qa_ | apply qc_ | refine qf_ ?_ GE269.out | refine qf_ ?_ GE287.out) | exact HB.out)⟩⟩
            ·rw [if_neg c23] at H
             have c23b0 : (t285 == 0) = false := beq_eq_false_iff_ne.mpr c23
             have c23b1 : (t285 != 0) = true := bne_iff_ne.mpr c23
             replace H := Option.bind_eq_some_iff.mp H
             obtain ⟨⟨t292, t293⟩, A320, H⟩ := H
             replace H : (some (([] : List (S34)), ([] : List ByteArray), t292, t293)) = some (r1, r2, r3, r4) := H
             have A32 := qi_.mk A320
             clear A320
             simp only [Option.some.injEq, Prod.mk.injEq] at H
             obtain ⟨rfl, rfl, rfl, rfl⟩ := H
             have p281 : 0 ≤ (x8_1 : Int) := of_decide_eq_true (by assumption)
             have q281 : x8_1 < (l1.length : Int) := of_decide_eq_true (by assumption)
             obtain ⟨ad281, A281_5, c281_5, e281, hx281_0, hx281_1, hx281_2, hx281_3, hx281_4, hx281_5, hl281_5, hi281_5⟩ := at_T43 HR1.out x8_1 p281 q281
             obtain rfl : ad278 = ad281 := (by injection e281)
             replace hx281_0 := (HB.out.cell (World.block_lt_of_cell? w _ hx281_0)).trans hx281_0
             replace hx281_1 := (HB.out.cell (World.block_lt_of_cell? w _ hx281_1)).trans hx281_1
             replace hx281_2 := (HB.out.cell (World.block_lt_of_cell? w _ hx281_2)).trans hx281_2
             replace hx281_3 := (HB.out.cell (World.block_lt_of_cell? w _ hx281_3)).trans hx281_3
             replace hx281_4 := (HB.out.cell (World.block_lt_of_cell? w _ hx281_4)).trans hx281_4
             replace hx281_5 := (HB.out.cell (World.block_lt_of_cell? w _ hx281_5)).trans hx281_5
             have HR281_5 := qi_.mk hi281_5
             have HC281_5 := qi_.mk hl281_5
             clear hi281_5 hl281_5
             replace p281 := eq_true p281
             replace q281 := eq_true q281
             obtain ⟨Ao33, co33, eo33⟩ := Kd.V_slice HO_0.out
             subst eo33
             go_wp2_with (first | ((with_reducible refine q2_ (f := 22) rfl ?_); refine goesL_ (some 52) rfl rfl Try.func22 (by kernel_rfl) rfl #[.agg #[.slice A281_5 ((rd_T43 l1 x8_1).f5.f0).length c281_5], .slice Ao33 x0_1.length co33] rfl (by simp only [List.map_toArray]; first | done | rfl) ?_; (with_reducible refine (qy_.calls kj15 _ _ ((rd_T43 l1 x8_1).f5.f0) _ _ x0_1 t282 t285 t286 _ ?side1 ?side2 ?side3 ?side4 A22.out).mono ?_); (case side1 => repeat (first | exact (Kd.C_below HR281_5.out HB.out))); (case side2 => exact HC281_5.out); (case side3 => repeat (first | exact (Kd.V_reads' HO_0.out).2.2)); (case side4 => exact (Kd.V_reads' HO_0.out).2.1); rintro e w34 ⟨v283, rfl, ho0, hb⟩; refine ⟨_, rfl, ?_⟩; have n0_ := qi_.mk (Kd.V_elder' (by exact HO_0.out) (Kd.R_base ho0) hb); have n1_ := qi_.mk (Kd.R_below (by (with_reducible repeat (first | apply Kd.qo_ | apply Kd.qp_)); exact HO_7.out) hb); have n2_ := qi_.mk (Kd.R_lower (Kd.R_newM (M := fun k_ => (w.heap.size ≤ k_)) ho0 (qq_ (by repeat (first | (with_reducible first | exact HB.out | apply qe_ | apply qa_ | apply qc_ | refine qf_ ?_ GE269.out) | exact HB.out))) (fun k_ h_ => h_)) (qq_ (by repeat (first | (with_reducible first | exact HB.out | apply qe_ | apply qa_ | apply qc_ | refine qf_ ?_ GE269.out) | exact HB.out)))); have n3_ := qi_.mk (qn_ (g := gb269) (o := .cells #[.int .i64 x270000_1, .int .i64 x270001_1] 26 (0, 0)) (by (with_reducible repeat (first | refine qd_ ?_ _ | refine qh_ ?_)); exact BK269.out) hb); have n4_ := qi_.mk (qr_ (by repeat (first | (with_reducible first | exact HB.out | apply qe_ | apply qa_ | apply qc_ | refine qf_ ?_ GE269.out) | exact HB.out)) hb); clear HO_0; clear HO_7; clear BK269; clear HB; have HO_0 := n0_; have HO_7 := n1_; have HO284 := n2_; have BK269 := n3_; have HB := n4_; clear n0_ n1_ n2_ n3_ n4_; (try clear hb); (try clear ho0)) | ((with_reducible refine gate_dst (N := 11) rfl ?_); refine q1_ ?hg (N := 11) ?hd (cs := #[.int .i64 0, .int .i64 0]) (t := 26) ?hr ?_; (case hd => rfl); (case hg => rfl); (case hr => first | (go_simp; done) | (go_simp; rfl)); intro gb287 hg w35 hbox hb; have n0_ := qi_.mk (Kd.V_below (Kd.V_elderB (by exact HO_0.out) gb287 (Nat.le_of_eq hg.symm)) hb); have n1_ := qi_.mk (Kd.R_below (by (with_reducible repeat (first | apply Kd.qo_ | apply Kd.qp_)); exact HO_7.out) hb); have n2_ := qi_.mk (Kd.R_below (by (with_reducible repeat (first | apply Kd.qo_ | apply Kd.qp_)); exact HO284.out) hb); have n3_ := qi_.mk (qn_ (g := gb269) (o := .cells #[.int .i64 x270000_1, .int .i64 x270001_1] 26 (0, 0)) (by (with_reducible repeat (first | refine qd_ ?_ _ | refine qh_ ?_)); exact BK269.out) hb); have n4_ := qi_.mk (qr_ (by repeat (first | (with_reducible first | exact HB.out | apply qe_ | apply qa_ | apply qc_ | refine qf_ ?_ GE269.out) | exact HB.out)) hb); have n5_ := qi_.mk (hbox); have n6_ := qi_.mk ((by rw [hg]; exact (qq_ (by repeat (first | (with_reducible first | exact HB.out | apply qe_ | apply qa_ | apply qc_ | refine qf_ ?_ GE269.out) | exact HB.out))) : w.heap.size ≤ gb287)); have n7_ := qi_.mk ((by rw [hg]; exact (qq_ (by repeat (first | (with_reducible first | exact HB.out | apply qe_ | apply qa_ | apply qc_ | refine qf_ ?_ GE269.out) | exact HB.out))) : w.heap.size ≤ gb287)); have n8_ := qi_.mk ((by rw [hg]; exact Nat.ne_of_lt (blk_lt (g := gb269) (o := .cells #[.int .i64 x270000_1, .int .i64 x270001_1] 26 (0, 0)) (by (with_reducible repeat (first | refine qd_ ?_ _ | refine qh_ ?_)); exact BK269.out)) : gb269 ≠ gb287)); have n9_ := qi_.mk ((by rw [hg]; exact Nat.ne_of_gt (blk_lt (g := gb269) (o := .cells #[.int .i64 x270000_1, .int .i64 x270001_1] 26 (0, 0)) (by (with_reducible repeat (first | refine qd_ ?_ _ | refine qh_ ?_)); exact BK269.out)) : gb287 ≠ gb269)); clear HO_0; clear HO_7; clear HO284; clear BK269; clear HB; have HO_0 := n0_; have HO_7 := n1_; have HO284 := n2_; have BK269 := n3_; have HB := n4_; have BK287 := n5_; have GW287 := n6_; have GE287 := n7_; have NB269_287 := n8_; have NB287_269 := n9_; clear n0_ n1_ n2_ n3_ n4_ n5_ n6_ n7_ n8_ n9_; clear hb hbox hg; have hnb36 := NB287_269.out; have hnc36 := NB269_287.out; have hcz37_0 : w35.cell? ⟨gb287, 0, none⟩ = some (.int .i64 0) := (qb_ BK287.out 0).trans rfl; have hcz37_1 : w35.cell? ⟨gb287, 1, none⟩ = some (.int .i64 0) := (qb_ BK287.out 1).trans rfl; have hfz37_0 := qg_ BK287.out 0; have hfz37_1 := qg_ BK287.out 1) | ((with_reducible refine q2_ (f := 20) rfl ?_); refine goesL_ (some 84) rfl rfl Try.func20 (by kernel_rfl) rfl #[.int .i64 t285, .int .i64 x8_1] rfl (by simp only [List.map_toArray]; first | done | rfl) ?_; (with_reducible refine (changeforgeref7_Fault.calls t285 x8_1 t292 t293 _ A32.out).mono ?_); rintro e w38 ⟨rfl, hb⟩; refine ⟨_, rfl, ?_⟩; have n0_ := qi_.mk (Kd.V_below (by exact (Kd.V_mono (Kd.V_far (p := ⟨gb287, 1, none⟩) (Kd.V_far (p := ⟨gb287, 0, none⟩) (Kd.V_mono HO_0.out (fun k_ hk => (⟨hk, hk.2⟩ : _ ∧ k_ ≠ gb287))) (fun _ hk => hk.2) (.int .i64 t285)) (fun _ hk => hk.2) (.int .i64 t286)) (fun _ h_ => h_.1))) hb); have n1_ := qi_.mk (Kd.R_below (by (with_reducible repeat (first | apply Kd.qo_ | apply Kd.qp_)); exact (Kd.R_mono (Kd.R_far (p := ⟨gb287, 1, none⟩) (Kd.R_far (p := ⟨gb287, 0, none⟩) (Kd.R_types HO_7.out BK287.out (by decide)) (fun _ hk => hk.2) (.int .i64 t285)) (fun _ hk => hk.2) (.int .i64 t286)) (fun _ h_ => h_.1))) hb); have n2_ := qi_.mk (Kd.R_below (by (with_reducible repeat (first | apply Kd.qo_ | apply Kd.qp_)); exact (Kd.R_mono (Kd.R_far (p := ⟨gb287, 1, none⟩) (Kd.R_far (p := ⟨gb287, 0, none⟩) (Kd.R_types HO284.out BK287.out (by decide)) (fun _ hk => hk.2) (.int .i64 t285)) (fun _ hk => hk.2) (.int .i64 t286)) (fun _ h_ => h_.1))) hb); have n3_ := qi_.mk (qn_ (g := gb269) (o := .cells #[.int .i64 x270000_1, .int .i64 x270001_1] 26 (0, 0)) (by (with_reducible repeat (first | refine qd_ ?_ _ | refine qh_ ?_)); refine q7_ ?_ NB269_287.out _; (with_reducible repeat (first | refine qd_ ?_ _ | refine qh_ ?_)); refine q7_ ?_ NB269_287.out _; (with_reducible repeat (first | refine qd_ ?_ _ | refine qh_ ?_)); exact BK269.out) hb); have n4_ := qi_.mk (qn_ (g := gb287) (o := .cells #[.int .i64 t285, .int .i64 t286] 26 (0, 0)) (by (with_reducible repeat (first | refine qd_ ?_ _ | refine qh_ ?_)); refine q6_ (cs := #[.int .i64 t285, .int .i64 0]) ?_ 1 _ rfl; (with_reducible repeat (first | refine qd_ ?_ _ | refine qh_ ?_)); refine q6_ (cs := #[.int .i64 0, .int .i64 0]) ?_ 0 _ rfl; (with_reducible repeat (first | refine qd_ ?_ _ | refine qh_ ?_)); exact BK287.out) hb); have n5_ := qi_.mk (qr_ (by repeat (first | (with_reducible first | exact HB.out | apply qe_ | apply qa_ | apply qc_ | refine qf_ ?_ GE269.out | refine qf_ ?_ GE287.out) | exact HB.out)) hb); clear HO_0; clear HO_7; clear HO284; clear BK269; clear BK287; clear HB; have HO_0 := n0_; have HO_7 := n1_; have HO284 := n2_; have BK269 := n3_; have BK287 := n4_; have HB := n5_; clear n0_ n1_ n2_ n3_ n4_ n5_; (try clear hb); have hcz39_0 : w38.cell? ⟨gb269, 0, none⟩ = some (.int .i64 x270000_1) := (qb_ BK269.out 0).trans rfl; have hcz39_1 : w38.cell? ⟨gb269, 1, none⟩ = some (.int .i64 x270001_1) := (qb_ BK269.out 1).trans rfl; have hfz39_0 := qg_ BK269.out 0; have hfz39_1 := qg_ BK269.out 1))
             refine bodyPost_ret (results_list (rs := [.tmp 4, .tmp 5, .cell 6 26]) rfl (by simp) (.tmp (.tmp (.cell gb269 26 #[.int .i64 t292, .int .i64 t293] (0, 0) _ rfl (by (with_reducible repeat (first | refine qd_ ?_ _ | refine qh_ ?_)); refine q6_ (cs := #[.int .i64 t292, .int .i64 x270001_1]) ?_ 1 _ rfl; (with_reducible repeat (first | refine qd_ ?_ _ | refine qh_ ?_)); refine q6_ (cs := #[.int .i64 x270000_1, .int .i64 x270001_1]) ?_ 0 _ rfl; (with_reducible repeat (first | refine qd_ ?_ _ | refine qh_ ?_)); exact BK269.out) Try.underlying26 rfl (by kernel_rfl) .nil)))) rfl ?_
             exact ⟨_, _, by first | rfl | (simp [*] <;> rfl), by first | exact Kd.R_nil _ _ _ _ _ | exact Kd.N_nil _ _ _ _ _ | exact Kd.V_nil _ _ _ _ _ | exact Kd.Q_nil _ _ _ _ _ | exact Kd.S_nil _ _ _ _ _, Kd.V_nil _ _ _ _ _, by repeat (first | (with_reducible first | exact HB.out | apply qe_ | apply qa_ | apply qc_ | refine qf_ ?_ GE269.out | refine qf_ ?_ GE287.out) | exact HB.out)⟩
           ·rw [if_neg c21] at H
            exact absurd H (by simp)
          ·rw [if_neg c20] at H
           exact absurd H (by simp)
         ·replace c19 := Bool.eq_false_iff.mpr c19
          subst c19
          have H1 : (if t279 = 0 then (if 0 ≤ x8_1 then (if x8_1 < (l1.length : Int) then ((qu_.f kj15 x7_1 ((rd_T43 l1 x8_1).f0) ((rd_T43 l1 x8_1).f1) ((rd_T43 l1 x8_1).f2) ((rd_T43 l1 x8_1).f3) ((rd_T43 l1 x8_1).f4) ((rd_T43 l1 x8_1).f5.f0) (x0_1.length : Int)).bind fun bt295 => (if bt295.2 = 0 then (qm_.l0 kj15 x0_1 l1 bt295.1 (wrap64 (x8_1 + 1))) else ((changeforgeref7_Fault.f bt295.2 x8_1).bind fun bt299 => (some (([] : List (S34)), ([] : List ByteArray), bt299.1, bt299.2))))) else (none)) else (none)) else ((changeforgeref7_Fault.f t279 x8_1).bind fun bt301 => (some (([] : List (S34)), ([] : List ByteArray), bt301.1, bt301.2)))) = some (r1, r2, r3, r4) := by rw [if_neg (show ¬ (false = true) by decide)] at H; exact H
          clear H
          have H := H1
          clear H1
          by_cases c40 : t279 = 0
          ·rw [if_pos c40] at H
           have c40b0 : (t279 == 0) = true := beq_iff_eq.mpr c40
           have c40b1 : (t279 != 0) = false := bne_eq_false_iff_eq.mpr c40
           clear c40
           by_cases c41 : 0 ≤ x8_1
           ·rw [if_pos c41] at H
            have c41b0 : decide (0 ≤ x8_1) = true := decide_eq_true c41
            clear c41
            by_cases c42 : x8_1 < (l1.length : Int)
            ·rw [if_pos c42] at H
             have c42b0 : decide (x8_1 < (l1.length : Int)) = true := decide_eq_true c42
             clear c42
             replace H := Option.bind_eq_some_iff.mp H
             obtain ⟨⟨t295, t298⟩, A430, H⟩ := H
             replace H : (if t298 = 0 then (qm_.l0 kj15 x0_1 l1 t295 (wrap64 (x8_1 + 1))) else ((changeforgeref7_Fault.f t298 x8_1).bind fun bt299 => (some (([] : List (S34)), ([] : List ByteArray), bt299.1, bt299.2)))) = some (r1, r2, r3, r4) := H
             have A43 := qi_.mk A430
             clear A430
             by_cases c44 : t298 = 0
             ·rw [if_pos c44] at H
              have c44b0 : (t298 == 0) = true := beq_iff_eq.mpr c44
              have c44b1 : (t298 != 0) = false := bne_eq_false_iff_eq.mpr c44
              clear c44
              have H' := qi_.mk H
              clear H
              have p294 : 0 ≤ (x8_1 : Int) := of_decide_eq_true (by assumption)
              have q294 : x8_1 < (l1.length : Int) := of_decide_eq_true (by assumption)
              obtain ⟨ad294, A294_5, c294_5, e294, hx294_0, hx294_1, hx294_2, hx294_3, hx294_4, hx294_5, hl294_5, hi294_5⟩ := at_T43 HR1.out x8_1 p294 q294
              obtain rfl : ad278 = ad294 := (by injection e294)
              replace hx294_0 := (HB.out.cell (World.block_lt_of_cell? w _ hx294_0)).trans hx294_0
              replace hx294_1 := (HB.out.cell (World.block_lt_of_cell? w _ hx294_1)).trans hx294_1
              replace hx294_2 := (HB.out.cell (World.block_lt_of_cell? w _ hx294_2)).trans hx294_2
              replace hx294_3 := (HB.out.cell (World.block_lt_of_cell? w _ hx294_3)).trans hx294_3
              replace hx294_4 := (HB.out.cell (World.block_lt_of_cell? w _ hx294_4)).trans hx294_4
              replace hx294_5 := (HB.out.cell (World.block_lt_of_cell? w _ hx294_5)).trans hx294_5
              have HR294_5 := qi_.mk hi294_5
              have HC294_5 := qi_.mk hl294_5
              clear hi294_5 hl294_5
              replace p294 := eq_true p294
              replace q294 := eq_true q294
              obtain ⟨Ao45, co45, eo45⟩ := Kd.V_slice HO_0.out
              subst eo45
              obtain ⟨Ao46, co46, eo46⟩ := Kd.R_slice HO_7.out
              subst eo46
              go_wp2_with (first | ((with_reducible refine q2_ (f := 24) rfl ?_); refine goesL_ (some 77) rfl rfl Try.func24 (by kernel_rfl) rfl #[.slice Ao46 x7_1.length co46, .agg #[.int .i64 ((rd_T43 l1 x8_1).f0), .int .i64 ((rd_T43 l1 x8_1).f1), .int .i64 ((rd_T43 l1 x8_1).f2), .int .i64 ((rd_T43 l1 x8_1).f3), .string ((rd_T43 l1 x8_1).f4), .slice A294_5 ((rd_T43 l1 x8_1).f5.f0).length c294_5], .int .i64 (x0_1.length : Int)] rfl (by simp only [List.map_toArray]; first | done | rfl) ?_; (with_reducible refine (qu_.calls kj15 (fun k_ => some k_ = (.slice Ao46 x7_1.length co46 : Value).ownBlock) (.slice Ao46 x7_1.length co46) x7_1 ((rd_T43 l1 x8_1).f0) ((rd_T43 l1 x8_1).f1) ((rd_T43 l1 x8_1).f2) ((rd_T43 l1 x8_1).f3) ((rd_T43 l1 x8_1).f4) _ _ ((rd_T43 l1 x8_1).f5.f0) (x0_1.length : Int) t295 t298 w _ ?side1 ?side2 ?side3 ?side4 A43.out).mono ?_); (case side1 => repeat (first | (with_reducible first | exact HB.out | apply qe_ | apply qa_ | apply qc_ | refine qf_ ?_ GE269.out) | exact HB.out)); (case side2 => exact Kd.R_tight rfl HO_7.out); (case side3 => exact Kd.C_kept_came k52_heap HR294_5.out (by repeat (first | (with_reducible first | exact HB.out | apply qe_ | apply qa_ | apply qc_ | refine qf_ ?_ GE269.out) | exact HB.out)) (fun k_ hs_ => (fun e_ => Kd.R_base HO_7.out k_ e_.symm) hs_)); (case side4 => exact HC294_5.out); rintro e w47 ⟨v296, rfl, ho0, hb, hkp⟩; refine ⟨_, rfl, ?_⟩; have n0_ := qi_.mk (Kd.V_mono (ok' := fun k_ => (P0_ k_ ∨ w.heap.size ≤ k_) ∧ k_ ≠ gb269 ∧ some k_ ≠ (v296 : Value).ownBlock) (Kd.V_keptB (HO_0.out) hkp (fun k_ hk_ hs_ => (hk_.2.1) hs_)) (fun k_ hk_ => ⟨hk_.1.1, hk_.1.2.2, fun e_ => Or.elim (ho0.1 k_ e_.symm) (fun hs_ => hk_.2.1 hs_) (fun hn_ => Nat.not_le.2 hk_.2.2 hn_)⟩)); have n1_ := qi_.mk (blk_kept (by (with_reducible repeat (first | refine qd_ ?_ _ | refine qh_ ?_)); exact BK269.out) hkp (fun hs_ => (fun e_ => (Kd.R_ne HO_7.out BK269.out (by decide)) e_) hs_)); have n2_ := qi_.mk (Kd.R_mono (ok' := fun k_ => (w.heap.size ≤ k_)) ho0 (fun k_ hk_ => Or.elim hk_ (fun hs_ => (HO_7.out.1 k_ (hs_).symm)) (fun hn_ => (Nat.le_trans (qq_ (by repeat (first | (with_reducible first | exact HB.out | apply qe_ | apply qa_ | apply qc_ | refine qf_ ?_ GE269.out) | exact HB.out))) hn_)))); have n3_ := qi_.mk (hb); clear HO_0; clear BK269; clear HB; clear HO_7; have HO_0 := n0_; have BK269 := n1_; have HO297 := n2_; have HB := n3_; clear n0_ n1_ n2_ n3_; (try clear hb); (try clear hkp); (try clear ho0)))
              go_roundg kj15
              case measure => have := HK1.out; have := HJ15.out; omega
              case rel => exact ⟨(x0_1), (t295), (wrap64 (x8_1 + 1)), (x270000_1), (x270001_1), (by first | rfl | (simp; done) | (simp [*]; done)), H', ⟨by have := HK1.out; have := HJ15.out; omega⟩, ⟨by exact Kd.V_mono HO_0.out (fun _ hk => ⟨hk.1, ⟨hk.2.2, hk.2.1⟩⟩)⟩, ⟨by (with_reducible repeat (first | apply Kd.qo_ | apply Kd.qp_)); exact HO297.out⟩, ⟨by (with_reducible repeat (first | refine qd_ ?_ _ | refine qh_ ?_)); exact BK269.out⟩, ⟨by repeat (first | (with_reducible first | exact HB.out | apply qe_ | apply qa_ | apply qc_ | refine qf_ ?_ GE269.out) | exact HB.out)⟩⟩
             ·rw [if_neg c44] at H
              have c44b0 : (t298 == 0) = false := beq_eq_false_iff_ne.mpr c44
              have c44b1 : (t298 != 0) = true := bne_iff_ne.mpr c44
              replace H := Option.bind_eq_some_iff.mp H
              obtain ⟨⟨t299, t300⟩, A480, H⟩ := H
              replace H : (some (([] : List (S34)), ([] : List ByteArray), t299, t300)) = some (r1, r2, r3, r4) := H
              have A48 := qi_.mk A480
              clear A480
              simp only [Option.some.injEq, Prod.mk.injEq] at H
              obtain ⟨rfl, rfl, rfl, rfl⟩ := H
              have p294 : 0 ≤ (x8_1 : Int) := of_decide_eq_true (by assumption)
              have q294 : x8_1 < (l1.length : Int) := of_decide_eq_true (by assumption)
              obtain ⟨ad294, A294_5, c294_5, e294, hx294_0, hx294_1, hx294_2, hx294_3, hx294_4, hx294_5, hl294_5, hi294_5⟩ := at_T43 HR1.out x8_1 p294 q294
              obtain rfl : ad278 = ad294 := (by injection e294)
              replace hx294_0 := (HB.out.cell (World.block_lt_of_cell? w _ hx294_0)).trans hx294_0
              replace hx294_1 := (HB.out.cell (World.block_lt_of_cell? w _ hx294_1)).trans hx294_1
              replace hx294_2 := (HB.out.cell (World.block_lt_of_cell? w _ hx294_2)).trans hx294_2
              replace hx294_3 := (HB.out.cell (World.block_lt_of_cell? w _ hx294_3)).trans hx294_3
              replace hx294_4 := (HB.out.cell (World.block_lt_of_cell? w _ hx294_4)).trans hx294_4
              replace hx294_5 := (HB.out.cell (World.block_lt_of_cell? w _ hx294_5)).trans hx294_5
              have HR294_5 := qi_.mk hi294_5
              have HC294_5 := qi_.mk hl294_5
              clear hi294_5 hl294_5
              replace p294 := eq_true p294
              replace q294 := eq_true q294
              obtain ⟨Ao49, co49, eo49⟩ := Kd.V_slice HO_0.out
              subst eo49
              obtain ⟨Ao50, co50, eo50⟩ := Kd.R_slice HO_7.out
              subst eo50
              go_wp2_with (first | ((with_reducible refine q2_ (f := 24) rfl ?_); refine goesL_ (some 77) rfl rfl Try.func24 (by kernel_rfl) rfl #[.slice Ao50 x7_1.length co50, .agg #[.int .i64 ((rd_T43 l1 x8_1).f0), .int .i64 ((rd_T43 l1 x8_1).f1), .int .i64 ((rd_T43 l1 x8_1).f2), .int .i64 ((rd_T43 l1 x8_1).f3), .string ((rd_T43 l1 x8_1).f4), .slice A294_5 ((rd_T43 l1 x8_1).f5.f0).length c294_5], .int .i64 (x0_1.length : Int)] rfl (by simp only [List.map_toArray]; first | done | rfl) ?_; (with_reducible refine (qu_.calls kj15 (fun k_ => some k_ = (.slice Ao50 x7_1.length co50 : Value).ownBlock) (.slice Ao50 x7_1.length co50) x7_1 ((rd_T43 l1 x8_1).f0) ((rd_T43 l1 x8_1).f1) ((rd_T43 l1 x8_1).f2) ((rd_T43 l1 x8_1).f3) ((rd_T43 l1 x8_1).f4) _ _ ((rd_T43 l1 x8_1).f5.f0) (x0_1.length : Int) t295 t298 w _ ?side1 ?side2 ?side3 ?side4 A43.out).mono ?_); (case side1 => repeat (first | (with_reducible first | exact HB.out | apply qe_ | apply qa_ | apply qc_ | refine qf_ ?_ GE269.out) | exact HB.out)); (case side2 => exact Kd.R_tight rfl HO_7.out); (case side3 => exact Kd.C_kept_came k52_heap HR294_5.out (by repeat (first | (with_reducible first | exact HB.out | apply qe_ | apply qa_ | apply qc_ | refine qf_ ?_ GE269.out) | exact HB.out)) (fun k_ hs_ => (fun e_ => Kd.R_base HO_7.out k_ e_.symm) hs_)); (case side4 => exact HC294_5.out); rintro e w51 ⟨v296, rfl, ho0, hb, hkp⟩; refine ⟨_, rfl, ?_⟩; have n0_ := qi_.mk (Kd.V_mono (ok' := fun k_ => (P0_ k_ ∨ w.heap.size ≤ k_) ∧ k_ ≠ gb269 ∧ some k_ ≠ (v296 : Value).ownBlock) (Kd.V_keptB (HO_0.out) hkp (fun k_ hk_ hs_ => (hk_.2.1) hs_)) (fun k_ hk_ => ⟨hk_.1.1, hk_.1.2.2, fun e_ => Or.elim (ho0.1 k_ e_.symm) (fun hs_ => hk_.2.1 hs_) (fun hn_ => Nat.not_le.2 hk_.2.2 hn_)⟩)); have n1_ := qi_.mk (blk_kept (by (with_reducible repeat (first | refine qd_ ?_ _ | refine qh_ ?_)); exact BK269.out) hkp (fun hs_ => (fun e_ => (Kd.R_ne HO_7.out BK269.out (by decide)) e_) hs_)); have n2_ := qi_.mk (Kd.R_mono (ok' := fun k_ => (w.heap.size ≤ k_)) ho0 (fun k_ hk_ => Or.elim hk_ (fun hs_ => (HO_7.out.1 k_ (hs_).symm)) (fun hn_ => (Nat.le_trans (qq_ (by repeat (first | (with_reducible first | exact HB.out | apply qe_ | apply qa_ | apply qc_ | refine qf_ ?_ GE269.out) | exact HB.out))) hn_)))); have n3_ := qi_.mk (hb); clear HO_0; clear BK269; clear HB; clear HO_7; have HO_0 := n0_; have BK269 := n1_; have HO297 := n2_; have HB := n3_; clear n0_ n1_ n2_ n3_; (try clear hb); (try clear hkp); (try clear ho0)) | ((with_reducible refine q2_ (f := 20) rfl ?_); refine goesL_ (some 84) rfl rfl Try.func20 (by kernel_rfl) rfl #[.int .i64 t298, .int .i64 x8_1] rfl (by simp only [List.map_toArray]; first | done | rfl) ?_; (with_reducible refine (changeforgeref7_Fault.calls t298 x8_1 t299 t300 _ A48.out).mono ?_); rintro e w52 ⟨rfl, hb⟩; refine ⟨_, rfl, ?_⟩; have n0_ := qi_.mk (Kd.V_below (by exact HO_0.out) hb); have n1_ := qi_.mk (Kd.R_below (by (with_reducible repeat (first | apply Kd.qo_ | apply Kd.qp_)); exact HO297.out) hb); have n2_ := qi_.mk (qn_ (g := gb269) (o := .cells #[.int .i64 x270000_1, .int .i64 x270001_1] 26 (0, 0)) (by (with_reducible repeat (first | refine qd_ ?_ _ | refine qh_ ?_)); exact BK269.out) hb); have n3_ := qi_.mk (qr_ (by repeat (first | (with_reducible first | exact HB.out | apply qe_ | apply qa_ | apply qc_ | refine qf_ ?_ GE269.out) | exact HB.out)) hb); clear HO_0; clear HO297; clear BK269; clear HB; have HO_0 := n0_; have HO297 := n1_; have BK269 := n2_; have HB := n3_; clear n0_ n1_ n2_ n3_; (try clear hb); have hcz53_0 : w52.cell? ⟨gb269, 0, none⟩ = some (.int .i64 x270000_1) := (qb_ BK269.out 0).trans rfl; have hcz53_1 : w52.cell? ⟨gb269, 1, none⟩ = some (.int .i64 x270001_1) := (qb_ BK269.out 1).trans rfl; have hfz53_0 := qg_ BK269.out 0; have hfz53_1 := qg_ BK269.out 1))
              refine bodyPost_ret (results_list (rs := [.tmp 4, .tmp 5, .cell 6 26]) rfl (by simp) (.tmp (.tmp (.cell gb269 26 #[.int .i64 t299, .int .i64 t300] (0, 0) _ rfl (by (with_reducible repeat (first | refine qd_ ?_ _ | refine qh_ ?_)); refine q6_ (cs := #[.int .i64 t299, .int .i64 x270001_1]) ?_ 1 _ rfl; (with_reducible repeat (first | refine qd_ ?_ _ | refine qh_ ?_)); refine q6_ (cs := #[.int .i64 x270000_1, .int .i64 x270001_1]) ?_ 0 _ rfl; (with_reducible repeat (first | refine qd_ ?_ _ | refine qh_ ?_)); exact BK269.out) Try.underlying26 rfl (by kernel_rfl) .nil)))) rfl ?_
              exact ⟨_, _, by first | rfl | (simp [*] <;> rfl), by first | exact Kd.R_nil _ _ _ _ _ | exact Kd.N_nil _ _ _ _ _ | exact Kd.V_nil _ _ _ _ _ | exact Kd.Q_nil _ _ _ _ _ | exact Kd.S_nil _ _ _ _ _, Kd.V_nil _ _ _ _ _, by repeat (first | (with_reducible first | exact HB.out | apply qe_ | apply qa_ | apply qc_ | refine qf_ ?_ GE269.out) | exact HB.out)⟩
            ·rw [if_neg c42] at H
             exact absurd H (by simp)
           ·rw [if_neg c41] at H
            exact absurd H (by simp)
          ·rw [if_neg c40] at H
           have c40b0 : (t279 == 0) = false := beq_eq_false_iff_ne.mpr c40
           have c40b1 : (t279 != 0) = true := bne_iff_ne.mpr c40
           replace H := Option.bind_eq_some_iff.mp H
           obtain ⟨⟨t301, t302⟩, A540, H⟩ := H
           replace H : (some (([] : List (S34)), ([] : List ByteArray), t301, t302)) = some (r1, r2, r3, r4) := H
           have A54 := qi_.mk A540
           clear A540
           simp only [Option.some.injEq, Prod.mk.injEq] at H
           obtain ⟨rfl, rfl, rfl, rfl⟩ := H
           go_wp2_with (first | ((with_reducible refine q2_ (f := 20) rfl ?_); refine goesL_ (some 84) rfl rfl Try.func20 (by kernel_rfl) rfl #[.int .i64 t279, .int .i64 x8_1] rfl (by simp only [List.map_toArray]; first | done | rfl) ?_; (with_reducible refine (changeforgeref7_Fault.calls t279 x8_1 t301 t302 _ A54.out).mono ?_); rintro e w55 ⟨rfl, hb⟩; refine ⟨_, rfl, ?_⟩; have n0_ := qi_.mk (Kd.V_below (by exact HO_0.out) hb); have n1_ := qi_.mk (Kd.R_below (by (with_reducible repeat (first | apply Kd.qo_ | apply Kd.qp_)); exact HO_7.out) hb); have n2_ := qi_.mk (qn_ (g := gb269) (o := .cells #[.int .i64 x270000_1, .int .i64 x270001_1] 26 (0, 0)) (by (with_reducible repeat (first | refine qd_ ?_ _ | refine qh_ ?_)); exact BK269.out) hb); have n3_ := qi_.mk (qr_ (by repeat (first | (with_reducible first | exact HB.out | apply qe_ | apply qa_ | apply qc_ | refine qf_ ?_ GE269.out) | exact HB.out)) hb); clear HO_0; clear HO_7; clear BK269; clear HB; have HO_0 := n0_; have HO_7 := n1_; have BK269 := n2_; have HB := n3_; clear n0_ n1_ n2_ n3_; (try clear hb); have hcz56_0 : w55.cell? ⟨gb269, 0, none⟩ = some (.int .i64 x270000_1) := (qb_ BK269.out 0).trans rfl; have hcz56_1 : w55.cell? ⟨gb269, 1, none⟩ = some (.int .i64 x270001_1) := (qb_ BK269.out 1).trans rfl; have hfz56_0 := qg_ BK269.out 0; have hfz56_1 := qg_ BK269.out 1))
           refine bodyPost_ret (results_list (rs := [.tmp 4, .tmp 5, .cell 6 26]) rfl (by simp) (.tmp (.tmp (.cell gb269 26 #[.int .i64 t301, .int .i64 t302] (0, 0) _ rfl (by (with_reducible repeat (first | refine qd_ ?_ _ | refine qh_ ?_)); refine q6_ (cs := #[.int .i64 t301, .int .i64 x270001_1]) ?_ 1 _ rfl; (with_reducible repeat (first | refine qd_ ?_ _ | refine qh_ ?_)); refine q6_ (cs := #[.int .i64 x270000_1, .int .i64 x270001_1]) ?_ 0 _ rfl; (with_reducible repeat (first | refine qd_ ?_ _ | refine qh_ ?_)); exact BK269.out) Try.underlying26 rfl (by kernel_rfl) .nil)))) rfl ?_
           exact ⟨_, _, by first | rfl | (simp [*] <;> rfl), by first | exact Kd.R_nil _ _ _ _ _ | exact Kd.N_nil _ _ _ _ _ | exact Kd.V_nil _ _ _ _ _ | exact Kd.Q_nil _ _ _ _ _ | exact Kd.S_nil _ _ _ _ _, Kd.V_nil _ _ _ _ _, by repeat (first | (with_reducible first | exact HB.out | apply qe_ | apply qa_ | apply qc_ | refine qf_ ?_ GE269.out) | exact HB.out)⟩
      ·rw [if_neg c14] at H
       exact absurd H (by simp)
     ·rw [if_neg c13] at H
      have c13b0 : decide (x8_1 < (l1.length : Int)) = false := decide_eq_false c13
      clear c13
      simp only [Option.some.injEq, Prod.mk.injEq] at H
      obtain ⟨rfl, rfl, rfl, rfl⟩ := H
      have hcz57_0 : wr.cell? ⟨gb269, 0, none⟩ = some (.int .i64 x270000_1) := (qb_ BK269.out 0).trans rfl
      have hcz57_1 : wr.cell? ⟨gb269, 1, none⟩ = some (.int .i64 x270001_1) := (qb_ BK269.out 1).trans rfl
      have hfz57_0 := qg_ BK269.out 0
      have hfz57_1 := qg_ BK269.out 1
      go_wp2
      refine bodyPost_ret (results_list (rs := [.tmp 4, .tmp 5, .cell 6 26]) rfl (by simp) (.tmp (.tmp (.cell gb269 26 #[.int .i64 0, .int .i64 0] (0, 0) _ rfl (by (with_reducible repeat (first | refine qd_ ?_ _ | refine qh_ ?_)); refine q6_ (cs := #[.int .i64 0, .int .i64 x270001_1]) ?_ 1 _ rfl; (with_reducible repeat (first | refine qd_ ?_ _ | refine qh_ ?_)); refine q6_ (cs := #[.int .i64 x270000_1, .int .i64 x270001_1]) ?_ 0 _ rfl; (with_reducible repeat (first | refine qd_ ?_ _ | refine qh_ ?_)); exact BK269.out) Try.underlying26 rfl (by kernel_rfl) .nil)))) rfl ?_
      exact ⟨_, _, by first | rfl | (simp [*] <;> rfl), by (with_reducible repeat (first | apply Kd.qo_ | apply Kd.qp_)); exact Kd.R_mono (Kd.R_far (p := ⟨gb269, 1, none⟩) (Kd.R_far (p := ⟨gb269, 0, none⟩) (Kd.R_types HO_7.out BK269.out (by decide)) (fun _ hk => hk.2) (.int .i64 0)) (fun _ hk => hk.2) (.int .i64 0)) (fun _ hk => hk.1), by exact Kd.V_mono (Kd.V_far (p := ⟨gb269, 1, none⟩) (Kd.V_far (p := ⟨gb269, 0, none⟩) (Kd.V_mono HO_0.out (fun k_ hk => (⟨hk, hk.2.2⟩ : _ ∧ k_ ≠ gb269))) (fun _ hk => hk.2) (.int .i64 0)) (fun _ hk => hk.2) (.int .i64 0)) (fun _ hk => ⟨hk.1.1, hk.1.2.1⟩), by repeat (first | (with_reducible first | exact HB.out | apply qe_ | apply qa_ | apply qc_ | refine qf_ ?_ GE269.out) | exact HB.out)⟩
 ·rw [if_neg c4] at H
  have c4b0 : (t270 == 0) = false := beq_eq_false_iff_ne.mpr c4
  have c4b1 : (t270 != 0) = true := bne_iff_ne.mpr c4
  replace H := Option.bind_eq_some_iff.mp H
  obtain ⟨⟨t272, t273⟩, A580, H⟩ := H
  replace H : ((changeforgeref7_Fault.f t272 (-2)).bind fun bt274 => (some (([] : List (S34)), ([] : List ByteArray), bt274.1, bt274.2))) = some (r1, r2, r3, r4) := H
  have A58 := qi_.mk A580
  clear A580
  replace H := Option.bind_eq_some_iff.mp H
  obtain ⟨⟨t274, t275⟩, A590, H⟩ := H
  replace H : (some (([] : List (S34)), ([] : List ByteArray), t274, t275)) = some (r1, r2, r3, r4) := H
  have A59 := qi_.mk A590
  clear A590
  simp only [Option.some.injEq, Prod.mk.injEq] at H
  obtain ⟨rfl, rfl, rfl, rfl⟩ := H
  go_enter Try.func12, Try.ntmps12
  go_wp2_with (first | ((with_reducible refine gate_dst (N := 6) rfl ?_); refine q1_ ?hg (N := 6) ?hd (cs := #[.int .i64 0, .int .i64 0]) (t := 26) ?hr ?_; (case hd => rfl); (case hg => rfl); (case hr => first | (go_simp; done) | (go_simp; rfl)); intro gb269 hg w60 hbox hb; have n0_ := qi_.mk (Kd.V_below (Kd.V_elderB (by exact HO0.out) gb269 (Nat.le_of_eq hg.symm)) hb); have n1_ := qi_.mk (qr_ (by repeat (first | (with_reducible first | exact HB.out | apply qe_ | apply qa_ | apply qc_) | exact HB.out)) hb); have n2_ := qi_.mk (hbox); have n3_ := qi_.mk ((by rw [hg]; exact (qq_ (by repeat (first | (with_reducible first | exact HB.out | apply qe_ | apply qa_ | apply qc_) | exact HB.out))) : w.heap.size ≤ gb269)); have n4_ := qi_.mk ((by rw [hg]; exact (qq_ (by repeat (first | (with_reducible first | exact HB.out | apply qe_ | apply qa_ | apply qc_) | exact HB.out))) : w.heap.size ≤ gb269)); clear HO0; clear HB; have HO0 := n0_; have HB := n1_; have BK269 := n2_; have GW269 := n3_; have GE269 := n4_; clear n0_ n1_ n2_ n3_ n4_; clear hb hbox hg) | ((with_reducible refine q2_ (f := 19) rfl ?_); refine goesL_ (some 13) rfl rfl Try.func19 (by kernel_rfl) rfl #[.slice A0 l0.length c0] rfl (by simp only [List.map_toArray]; first | done | rfl) ?_; (with_reducible refine (qz_.calls k _ _ l0 t270 t271 _ ?side1 ?side2 A3.out).mono ?_); (case side1 => repeat (first | exact (Kd.V_reads' HO0.out).2.2)); (case side2 => exact (Kd.V_reads' HO0.out).2.1); rintro e w61 ⟨rfl, hb⟩; refine ⟨_, rfl, ?_⟩; have n0_ := qi_.mk (Kd.V_below (by exact HO0.out) hb); have n1_ := qi_.mk (qn_ (g := gb269) (o := .cells #[.int .i64 0, .int .i64 0] 26 (0, 0)) (by (with_reducible repeat (first | refine qd_ ?_ _ | refine qh_ ?_)); exact BK269.out) hb); have n2_ := qi_.mk (qr_ (by repeat (first | (with_reducible first | exact HB.out | apply qe_ | apply qa_ | apply qc_ | refine qf_ ?_ GE269.out) | exact HB.out)) hb); clear HO0; clear BK269; clear HB; have HO0 := n0_; have BK269 := n1_; have HB := n2_; clear n0_ n1_ n2_; (try clear hb)) | ((with_reducible refine q2_ (f := 19) rfl ?_); refine goesL_ (some 17) rfl rfl Try.func19 (by kernel_rfl) rfl #[.slice A0 l0.length c0] rfl (by simp only [List.map_toArray]; first | done | rfl) ?_; (with_reducible refine (qz_.calls k _ _ l0 t272 t273 _ ?side1 ?side2 A58.out).mono ?_); (case side1 => repeat (first | exact (Kd.V_reads' HO0.out).2.2)); (case side2 => exact (Kd.V_reads' HO0.out).2.1); rintro e w62 ⟨rfl, hb⟩; refine ⟨_, rfl, ?_⟩; have n0_ := qi_.mk (Kd.V_below (by exact HO0.out) hb); have n1_ := qi_.mk (qn_ (g := gb269) (o := .cells #[.int .i64 0, .int .i64 0] 26 (0, 0)) (by (with_reducible repeat (first | refine qd_ ?_ _ | refine qh_ ?_)); exact BK269.out) hb); have n2_ := qi_.mk (qr_ (by repeat (first | (with_reducible first | exact HB.out | apply qe_ | apply qa_ | apply qc_ | refine qf_ ?_ GE269.out) | exact HB.out)) hb); clear HO0; clear BK269; clear HB; have HO0 := n0_; have BK269 := n1_; have HB := n2_; clear n0_ n1_ n2_; (try clear hb)) | ((with_reducible refine q2_ (f := 20) rfl ?_); refine goesL_ (some 19) rfl rfl Try.func20 (by kernel_rfl) rfl #[.int .i64 t272, .int .i64 (-2)] rfl (by simp only [List.map_toArray]; first | done | rfl) ?_; (with_reducible refine (changeforgeref7_Fault.calls t272 (-2) t274 t275 _ A59.out).mono ?_); rintro e w63 ⟨rfl, hb⟩; refine ⟨_, rfl, ?_⟩; have n0_ := qi_.mk (Kd.V_below (by exact HO0.out) hb); have n1_ := qi_.mk (qn_ (g := gb269) (o := .cells #[.int .i64 0, .int .i64 0] 26 (0, 0)) (by (with_reducible repeat (first | refine qd_ ?_ _ | refine qh_ ?_)); exact BK269.out) hb); have n2_ := qi_.mk (qr_ (by repeat (first | (with_reducible first | exact HB.out | apply qe_ | apply qa_ | apply qc_ | refine qf_ ?_ GE269.out) | exact HB.out)) hb); clear HO0; clear BK269; clear HB; have HO0 := n0_; have BK269 := n1_; have HB := n2_; clear n0_ n1_ n2_; (try clear hb); have hcz64_0 : w63.cell? ⟨gb269, 0, none⟩ = some (.int .i64 0) := (qb_ BK269.out 0).trans rfl; have hcz64_1 : w63.cell? ⟨gb269, 1, none⟩ = some (.int .i64 0) := (qb_ BK269.out 1).trans rfl; have hfz64_0 := qg_ BK269.out 0; have hfz64_1 := qg_ BK269.out 1))
  refine bodyPost_ret (results_list (rs := [.tmp 4, .tmp 5, .cell 6 26]) rfl (by simp) (.tmp (.tmp (.cell gb269 26 #[.int .i64 t274, .int .i64 t275] (0, 0) _ rfl (by (with_reducible repeat (first | refine qd_ ?_ _ | refine qh_ ?_)); refine q6_ (cs := #[.int .i64 t274, .int .i64 0]) ?_ 1 _ rfl; (with_reducible repeat (first | refine qd_ ?_ _ | refine qh_ ?_)); refine q6_ (cs := #[.int .i64 0, .int .i64 0]) ?_ 0 _ rfl; (with_reducible repeat (first | refine qd_ ?_ _ | refine qh_ ?_)); exact BK269.out) Try.underlying26 rfl (by kernel_rfl) .nil)))) rfl ?_
  exact ⟨_, _, by first | rfl | (simp [*] <;> rfl), by first | exact Kd.R_nil _ _ _ _ _ | exact Kd.N_nil _ _ _ _ _ | exact Kd.V_nil _ _ _ _ _ | exact Kd.Q_nil _ _ _ _ _ | exact Kd.S_nil _ _ _ _ _, Kd.V_nil _ _ _ _ _, by repeat (first | (with_reducible first | exact HB.out | apply qe_ | apply qa_ | apply qc_ | refine qf_ ?_ GE269.out) | exact HB.out)⟩

end Go.Proofs.Ytjpdcnaealdbjaa.PTh
