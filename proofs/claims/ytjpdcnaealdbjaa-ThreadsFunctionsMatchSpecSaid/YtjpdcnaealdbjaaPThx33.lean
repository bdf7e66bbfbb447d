-- printed by drv.py (a program of this repo, over the kit's printer)
import Derived.Test.YtjpdcnaealdbjaaPThx0
import Derived.Test.YtjpdcnaealdbjaaPThx32
namespace Go.Proofs.Ytjpdcnaealdbjaa.PTh
open Go.RowKit Go.Proofs.YtjpdcnaealdbjaaW.PrintWords Go.Proofs.YtjpdcnaealdbjaaW.PrintLast Go.Proofs.YtjpdcnaealdbjaaW.PrintMore
attribute [local go_sem] max2_int min2_int max_two min_two max_three min_three max_four min_four   -- for this text's walks alone
set_option linter.unusedVariables false
set_option linter.unusedSimpArgs false

/-! ### qj_: function 21 -/
mutual
def qj_.j0 : Nat → Bool → Bool → Int → Int → Int → Int → ByteArray → List (S52) → Option (Int)
 | 0, _, _, _, _, _, _, _, _ => none
 | k + 1, x3, x16, x255000, x255001, x255002, x255003, x255004, x255005 => if x16 = true then (some 4) else (if x255000 = 1 then (if x255002 = 0 then (qj_.j1 k x3 x3 x255000 x255001 x255002 x255003 x255004 x255005) else (qj_.j1 k x3 true x255000 x255001 x255002 x255003 x255004 x255005)) else (qj_.j1 k x3 false x255000 x255001 x255002 x255003 x255004 x255005))
def qj_.j1 : Nat → Bool → Bool → Int → Int → Int → Int → ByteArray → List (S52) → Option (Int)
 | 0, _, _, _, _, _, _, _, _ => none
 | k + 1, x3, x27, x255000, x255001, x255002, x255003, x255004, x255005 => if x27 = true then (some 5) else (if x255000 = 2 then (if x255003 = 0 then (qj_.j2 k x3 x3 x255000 x255001 x255002 x255003 x255004 x255005) else (qj_.j2 k x3 true x255000 x255001 x255002 x255003 x255004 x255005)) else (qj_.j2 k x3 false x255000 x255001 x255002 x255003 x255004 x255005))
def qj_.j2 : Nat → Bool → Bool → Int → Int → Int → Int → ByteArray → List (S52) → Option (Int)
 | 0, _, _, _, _, _, _, _, _ => none
 | k + 1, x3, x38, x255000, x255001, x255002, x255003, x255004, x255005 => if x38 = true then (some 5) else (if x255000 = 3 then (if x255003 = 0 then (if x255004.toList = ([] : List UInt8) then (qj_.j3 k x3 x255000 x255001 x255002 x255003 x255004 x255005) else (qj_.j3 k true x255000 x255001 x255002 x255003 x255004 x255005)) else (qj_.j3 k true x255000 x255001 x255002 x255003 x255004 x255005)) else (qj_.j3 k false x255000 x255001 x255002 x255003 x255004 x255005))
def qj_.j3 : Nat → Bool → Int → Int → Int → Int → ByteArray → List (S52) → Option (Int)
 | 0, _, _, _, _, _, _, _ => none
 | k + 1, x54, x255000, x255001, x255002, x255003, x255004, x255005 => if x54 = true then (some 5) else (if x255000 = 4 then (if x255003 = 0 then (if x255004.toList = ([] : List UInt8) then (qj_.j4 k (x255002 != 0) x255000 x255001 x255002 x255003 x255004 x255005) else (qj_.j4 k true x255000 x255001 x255002 x255003 x255004 x255005)) else (qj_.j4 k true x255000 x255001 x255002 x255003 x255004 x255005)) else (qj_.j4 k false x255000 x255001 x255002 x255003 x255004 x255005))
def qj_.j4 : Nat → Bool → Int → Int → Int → Int → ByteArray → List (S52) → Option (Int)
 | 0, _, _, _, _, _, _, _ => none
 | k + 1, x72, x255000, x255001, x255002, x255003, x255004, x255005 => if x72 = true then (some 5) else (if x255001 < 0 then (qj_.j5 k true x255000 x255001 x255002 x255003 x255004 x255005) else (qj_.j5 k (decide (x255001 > 7)) x255000 x255001 x255002 x255003 x255004 x255005))
def qj_.j5 : Nat → Bool → Int → Int → Int → Int → ByteArray → List (S52) → Option (Int)
 | 0, _, _, _, _, _, _, _ => none
 | k + 1, x80, x255000, x255001, x255002, x255003, x255004, x255005 => if x80 = true then (some 3) else (if x255000 < 3 then ((qv_.f k x255004).bind fun t255 => (some t255)) else (some 0))
end
def qj_.f (k : Nat) (a0_0 : Int) (a0_1 : Int) (a0_2 : Int) (a0_3 : Int) (a0_4 : ByteArray) (l0_5 : List (S52)) : Option (Int) := if a0_0 < 1 then (qj_.j0 k (decide ((l0_5.length : Int) > 0)) true a0_0 a0_1 a0_2 a0_3 a0_4 l0_5) else (qj_.j0 k (decide ((l0_5.length : Int) > 0)) (decide (a0_0 > 4)) a0_0 a0_1 a0_2 a0_3 a0_4 l0_5)
theorem qj_.mono_l : ∀ k, (∀ y0 y1 y2 y3 y4 y5 y6 y7, LeO (qj_.j0 k y0 y1 y2 y3 y4 y5 y6 y7) (qj_.j0 (k + 1) y0 y1 y2 y3 y4 y5 y6 y7)) ∧ (∀ y0 y1 y2 y3 y4 y5 y6 y7, LeO (qj_.j1 k y0 y1 y2 y3 y4 y5 y6 y7) (qj_.j1 (k + 1) y0 y1 y2 y3 y4 y5 y6 y7)) ∧ (∀ y0 y1 y2 y3 y4 y5 y6 y7, LeO (qj_.j2 k y0 y1 y2 y3 y4 y5 y6 y7) (qj_.j2 (k + 1) y0 y1 y2 y3 y4 y5 y6 y7)) ∧ (∀ y0 y1 y2 y3 y4 y5 y6, LeO (qj_.j3 k y0 y1 y2 y3 y4 y5 y6) (qj_.j3 (k + 1) y0 y1 y2 y3 y4 y5 y6)) ∧ (∀ y0 y1 y2 y3 y4 y5 y6, LeO (qj_.j4 k y0 y1 y2 y3 y4 y5 y6) (qj_.j4 (k + 1) y0 y1 y2 y3 y4 y5 y6)) ∧ (∀ y0 y1 y2 y3 y4 y5 y6, LeO (qj_.j5 k y0 y1 y2 y3 y4 y5 y6) (qj_.j5 (k + 1) y0 y1 y2 y3 y4 y5 y6))
 | 0 => ⟨fun _ _ _ _ _ _ _ _ r h => by simp [qj_.j0] at h, fun _ _ _ _ _ _ _ _ r h => by simp [qj_.j1] at h, fun _ _ _ _ _ _ _ _ r h => by simp [qj_.j2] at h, fun _ _ _ _ _ _ _ r h => by simp [qj_.j3] at h, fun _ _ _ _ _ _ _ r h => by simp [qj_.j4] at h, fun _ _ _ _ _ _ _ r h => by simp [qj_.j5] at h⟩
 | k + 1 => by
  obtain ⟨ih0, ih1, ih2, ih3, ih4, ih5⟩ := qj_.mono_l k
  refine ⟨?_, ?_, ?_, ?_, ?_, ?_⟩
  ·intro y0 y1 y2 y3 y4 y5 y6 y7
   unfold qj_.j0
   repeat' first
   | (with_reducible exact ih0 _ _ _ _ _ _ _ _)
   | (with_reducible exact ih1 _ _ _ _ _ _ _ _)
   | (with_reducible exact ih2 _ _ _ _ _ _ _ _)
   | (with_reducible exact ih3 _ _ _ _ _ _ _)
   | (with_reducible exact ih4 _ _ _ _ _ _ _)
   | (with_reducible exact ih5 _ _ _ _ _ _ _)
   | (with_reducible exact qv_.mono _ _)
   | (with_reducible exact LeO.refl _)
   | (with_reducible exact LeO.none _)
   | (with_reducible refine LeO.ite ?_ ?_)
   | (with_reducible refine LeO.bind ?_ (fun _ => ?_))
   | exact ih0 _ _ _ _ _ _ _ _
   | exact ih1 _ _ _ _ _ _ _ _
   | exact ih2 _ _ _ _ _ _ _ _
   | exact ih3 _ _ _ _ _ _ _
   | exact ih4 _ _ _ _ _ _ _
   | exact ih5 _ _ _ _ _ _ _
   | exact qv_.mono _ _
   | exact LeO.none _
   | refine LeO.ite ?_ ?_
   | refine LeO.bind ?_ (fun _ => ?_)
  ·intro y0 y1 y2 y3 y4 y5 y6 y7
   unfold qj_.j1
   repeat' first
   | (with_reducible exact ih0 _ _ _ _ _ _ _ _)
   | (with_reducible exact ih1 _ _ _ _ _ _ _ _)
   | (with_reducible exact ih2 _ _ _ _ _ _ _ _)
   | (with_reducible exact ih3 _ _ _ _ _ _ _)
   | (with_reducible exact ih4 _ _ _ _ _ _ _)
   | (with_reducible exact ih5 _ _ _ _ _ _ _)
   | (with_reducible exact qv_.mono _ _)
   | (with_reducible exact LeO.refl _)
   | (with_reducible exact LeO.none _)
   | (with_reducible refine LeO.ite ?_ ?_)
   | (with_reducible refine LeO.bind ?_ (fun _ => ?_))
   | exact ih0 _ _ _ _ _ _ _ _
   | exact ih1 _ _ _ _ _ _ _ _
   | exact ih2 _ _ _ _ _ _ _ _
   | exact ih3 _ _ _ _ _ _ _
   | exact ih4 _ _ _ _ _ _ _
   | exact ih5 _ _ _ _ _ _ _
   | exact qv_.mono _ _
   | exact LeO.none _
   | refine LeO.ite ?_ ?_
   | refine LeO.bind ?_ (fun _ => ?_)
  ·intro y0 y1 y2 y3 y4 y5 y6 y7
   unfold qj_.j2
   repeat' first
   | (with_reducible exact ih0 _ _ _ _ _ _ _ _)
   | (with_reducible exact ih1 _ _ _ _ _ _ _ _)
   | (with_reducible exact ih2 _ _ _ _ _ _ _ _)
   | (with_reducible exact ih3 _ _ _ _ _ _ _)
   | (with_reducible exact ih4 _ _ _ _ _ _ _)
   | (with_reducible exact ih5 _ _ _ _ _ _ _)
   | (with_reducible exact qv_.mono _ _)
   | (with_reducible exact LeO.refl _)
   | (with_reducible exact LeO.none _)
   | (with_reducible refine LeO.ite ?_ ?_)
   | (with_reducible refine LeO.bind ?_ (fun _ => ?_))
   | exact ih0 _ _ _ _ _ _ _ _
   | exact ih1 _ _ _ _ _ _ _ _
   | exact ih2 _ _ _ _ _ _ _ _
   | exact ih3 _ _ _ _ _ _ _
   | exact ih4 _ _ _ _ _ _ _
   | exact ih5 _ _ _ _ _ _ _
   | exact qv_.mono _ _
   | exact LeO.none _
   | refine LeO.ite ?_ ?_
   | refine LeO.bind ?_ (fun _ => ?_)
  ·intro y0 y1 y2 y3 y4 y5 y6
   unfold qj_.j3
   repeat' first
   | (with_reducible exact ih0 _ _ _ _ _ _ _ _)
   | (with_reducible exact ih1 _ _ _ _ _ _ _ _)
   | (with_reducible exact ih2 _ _ _ _ _ _ _ _)
   | (with_reducible exact ih3 _ _ _ _ _ _ _)
   | (with_reducible exact ih4 _ _ _ _ _ _ _)
   | (with_reducible exact ih5 _ _ _ _ _ _ _)
   | (with_reducible exact qv_.mono _ _)
   | (with_reducible exact LeO.refl _)
   | (with_reducible exact LeO.none _)
   | (with_reducible refine LeO.ite ?_ ?_)
   | (with_reducible refine LeO.bind ?_ (fun _ => ?_))
   | exact ih0 _ _ _ _ _ _ _ _
   | exact ih1 _ _ _ _ _ _ _ _
   | exact ih2 _ _ _ _ _ _ _ _
   | exact ih3 _ _ _ _ _ _ _
   | exact ih4 _ _ _ _ _ _ _
   | exact ih5 _ _ _ _ _ _ _
   | exact qv_.mono _ _
   | exact LeO.none _
   | refine LeO.ite ?_ ?_
   | refine LeO.bind ?_ (fun _ => ?_)
  ·intro y0 y1 y2 y3 y4 y5 y6
   unfold qj_.j4
   repeat' first
   | (with_reducible exact ih0 _ _ _ _ _ _ _ _)
   | (with_reducible exact ih1 _ _ _ _ _ _ _ _)
   | (with_reducible exact ih2 _ _ _ _ _ _ _ _)
   | (with_reducible exact ih3 _ _ _ _ _ _ _)
   | (with_reducible exact ih4 _ _ _ _ _ _ _)
   | (with_reducible exact ih5 _ _ _ _ _ _ _)
   | (with_reducible exact qv_.mono _ _)
   | (with_reducible exact LeO.refl _)
   | (with_reducible exact LeO.none _)
   | (with_reducible refine LeO.ite ?_ ?_)
   | (with_reducible refine LeO.bind ?_ (fun _ => ?_))
   | exact ih0 _ _ _ _ _ _ _ _
   | exact ih1 _ _ _ _ _ _ _ _
   | exact ih2 _ _ _ _ _ _ _ _
   | exact ih3 _ _ _ _ _ _ _
   | exact ih4 _ _ _ _ _ _ _
   | exact ih5 _ _ _ _ _ _ _
   | exact qv_.mono _ _
   | exact LeO.none _
   | refine LeO.ite ?_ ?_
   | refine LeO.bind ?_ (fun _ => ?_)
  ·intro y0 y1 y2 y3 y4 y5 y6
   unfold qj_.j5
   repeat' first
   | (with_reducible exact ih0 _ _ _ _ _ _ _ _)
   | (with_reducible exact ih1 _ _ _ _ _ _ _ _)
   | (with_reducible exact ih2 _ _ _ _ _ _ _ _)
   | (with_reducible exact ih3 _ _ _ _ _ _ _)
   | (with_reducible exact ih4 _ _ _ _ _ _ _)
   | (with_reducible exact ih5 _ _ _ _ _ _ _)
   | (with_reducible exact qv_.mono _ _)
   | (with_reducible exact LeO.refl _)
   | (with_reducible exact LeO.none _)
   | (with_reducible refine LeO.ite ?_ ?_)
   | (with_reducible refine LeO.bind ?_ (fun _ => ?_))
   | exact ih0 _ _ _ _ _ _ _ _
   | exact ih1 _ _ _ _ _ _ _ _
   | exact ih2 _ _ _ _ _ _ _ _
   | exact ih3 _ _ _ _ _ _ _
   | exact ih4 _ _ _ _ _ _ _
   | exact ih5 _ _ _ _ _ _ _
   | exact qv_.mono _ _
   | exact LeO.none _
   | refine LeO.ite ?_ ?_
   | refine LeO.bind ?_ (fun _ => ?_)
theorem qj_.mono : ∀ a0 a1 a2 a3 a4 a5 k, LeO (qj_.f k a0 a1 a2 a3 a4 a5) (qj_.f (k + 1) a0 a1 a2 a3 a4 a5) := by
 intro a0 a1 a2 a3 a4 a5 k
 obtain ⟨ih0, ih1, ih2, ih3, ih4, ih5⟩ := qj_.mono_l k
 unfold qj_.f
 repeat' first
   | (with_reducible exact ih0 _ _ _ _ _ _ _ _)
   | (with_reducible exact ih1 _ _ _ _ _ _ _ _)
   | (with_reducible exact ih2 _ _ _ _ _ _ _ _)
   | (with_reducible exact ih3 _ _ _ _ _ _ _)
   | (with_reducible exact ih4 _ _ _ _ _ _ _)
   | (with_reducible exact ih5 _ _ _ _ _ _ _)
   | (with_reducible exact qv_.mono _ _)
   | (with_reducible exact LeO.refl _)
   | (with_reducible exact LeO.none _)
   | (with_reducible refine LeO.ite ?_ ?_)
   | (with_reducible refine LeO.bind ?_ (fun _ => ?_))
   | exact ih0 _ _ _ _ _ _ _ _
   | exact ih1 _ _ _ _ _ _ _ _
   | exact ih2 _ _ _ _ _ _ _ _
   | exact ih3 _ _ _ _ _ _ _
   | exact ih4 _ _ _ _ _ _ _
   | exact ih5 _ _ _ _ _ _ _
   | exact qv_.mono _ _
   | exact LeO.none _
   | refine LeO.ite ?_ ?_
   | refine LeO.bind ?_ (fun _ => ?_)
set_option maxHeartbeats 8000000 in
set_option maxRecDepth 100000 in
theorem qj_.calls (k : Nat) (a0_0 : Int) (a0_1 : Int) (a0_2 : Int) (a0_3 : Int) (a0_4 : ByteArray) (A0_5 : Option Addr) (c0_5 : Nat) (l0_5 : List (S52)) (r : Int) (w : World) (hr0_5 : Kd.C k52 w A0_5 l0_5.length l0_5) (hc0_5 : l0_5.length ≤ c0_5) (h : qj_.f k a0_0 a0_1 a0_2 a0_3 a0_4 l0_5 = some r) :
  Calls Try.prog 21 #[.agg #[.int .i64 a0_0, .int .i64 a0_1, .int .i64 a0_2, .int .i64 a0_3, .string a0_4, .slice A0_5 l0_5.length c0_5]] w fun e w' => e = .returned (.int .i64 r) ∧ Below w.heap.size w w' := by
 have hu43 := Try.underlying43
 have HR0_5 := qi_.mk hr0_5
 have HC0_5 := qi_.mk hc0_5
 clear hr0_5 hc0_5
 have HB := qi_.mk (Below.refl w.heap.size w)
 have H : (if a0_0 < 1 then (qj_.j0 k (decide ((l0_5.length : Int) > 0)) true a0_0 a0_1 a0_2 a0_3 a0_4 l0_5) else (qj_.j0 k (decide ((l0_5.length : Int) > 0)) (decide (a0_0 > 4)) a0_0 a0_1 a0_2 a0_3 a0_4 l0_5)) = some r := h
 clear h
 have HC2 := qi_.mk H
 clear H
 go_enter Try.func21, Try.ntmps21
 go_upto_region 2 with (first | ((with_reducible refine gate_dst (N := 1) rfl ?_); refine q1_ ?hg (N := 1) ?hd (cs := #[.int .i64 a0_0, .int .i64 a0_1, .int .i64 a0_2, .int .i64 a0_3, .string a0_4, .slice A0_5 l0_5.length c0_5]) (t := 43) ?hr ?_; (case hd => rfl); (case hg => rfl); (case hr => first | (go_simp; done) | (go_simp; rfl)); intro gb254 hg w3 hbox hb; have n0_ := qi_.mk (qr_ (by repeat (first | (with_reducible first | exact HB.out | apply qe_ | apply qa_ | apply qc_) | exact HB.out)) hb); have n1_ := qi_.mk (hbox); have n2_ := qi_.mk ((by rw [hg]; exact (qq_ (by repeat (first | (with_reducible first | exact HB.out | apply qe_ | apply qa_ | apply qc_) | exact HB.out))) : w.heap.size ≤ gb254)); have n3_ := qi_.mk ((by rw [hg]; exact (qq_ (by repeat (first | (with_reducible first | exact HB.out | apply qe_ | apply qa_ | apply qc_) | exact HB.out))) : w.heap.size ≤ gb254)); clear HB; have HB := n0_; have BK254 := n1_; have GW254 := n2_; have GE254 := n3_; clear n0_ n1_ n2_ n3_; clear hb hbox hg; have hcz4_0 : w3.cell? ⟨gb254, 0, none⟩ = some (.int .i64 a0_0) := (qb_ BK254.out 0).trans rfl; have hcz4_1 : w3.cell? ⟨gb254, 1, none⟩ = some (.int .i64 a0_1) := (qb_ BK254.out 1).trans rfl; have hcz4_2 : w3.cell? ⟨gb254, 2, none⟩ = some (.int .i64 a0_2) := (qb_ BK254.out 2).trans rfl; have hcz4_3 : w3.cell? ⟨gb254, 3, none⟩ = some (.int .i64 a0_3) := (qb_ BK254.out 3).trans rfl; have hcz4_4 : w3.cell? ⟨gb254, 4, none⟩ = some (.string a0_4) := (qb_ BK254.out 4).trans rfl; have hcz4_5 : w3.cell? ⟨gb254, 5, none⟩ = some (.slice A0_5 l0_5.length c0_5) := (qb_ BK254.out 5).trans rfl; have hfz4_0 := qg_ BK254.out 0; have hfz4_1 := qg_ BK254.out 1; have hfz4_2 := qg_ BK254.out 2; have hfz4_3 := qg_ BK254.out 3; have hfz4_4 := qg_ BK254.out 4; have hfz4_5 := qg_ BK254.out 5))
 (try simp only [Act.put, List.setIfInBounds_toArray, List.set_cons_zero, List.set_cons_succ])
 go_cut [16] (fun v16 wc => ∃ (kq : Nat) (x16_1 : Bool), v16 = .bool x16_1 ∧ qi_ (qj_.j0 kq (decide ((l0_5.length : Int) > 0)) x16_1 a0_0 a0_1 a0_2 a0_3 a0_4 l0_5 = some r) ∧ qi_ (kq ≤ k) ∧ qi_ (wc.heap[gb254]? = some (.cells #[.int .i64 a0_0, .int .i64 a0_1, .int .i64 a0_2, .int .i64 a0_3, .string a0_4, (.slice A0_5 l0_5.length c0_5)] 43 (0, 0))) ∧ qi_ (Below w.heap.size w wc))
 case first =>
  have H := HC2.out
  clear HC2
  by_cases c5 : a0_0 < 1
  ·rw [if_pos c5] at H
   have c5b0 : decide (a0_0 < 1) = true := decide_eq_true c5
   clear c5
   (first | rw [c5b0] | (simp only [i64_w, i32_w]; rw [c5b0]) | skip)
   have H' := qi_.mk H
   clear H
   have hcz6_0 : w3.cell? ⟨gb254, 0, none⟩ = some (.int .i64 a0_0) := (qb_ BK254.out 0).trans rfl
   have hcz6_1 : w3.cell? ⟨gb254, 1, none⟩ = some (.int .i64 a0_1) := (qb_ BK254.out 1).trans rfl
   have hcz6_2 : w3.cell? ⟨gb254, 2, none⟩ = some (.int .i64 a0_2) := (qb_ BK254.out 2).trans rfl
   have hcz6_3 : w3.cell? ⟨gb254, 3, none⟩ = some (.int .i64 a0_3) := (qb_ BK254.out 3).trans rfl
   have hcz6_4 : w3.cell? ⟨gb254, 4, none⟩ = some (.string a0_4) := (qb_ BK254.out 4).trans rfl
   have hcz6_5 : w3.cell? ⟨gb254, 5, none⟩ = some (.slice A0_5 l0_5.length c0_5) := (qb_ BK254.out 5).trans rfl
   have hfz6_0 := qg_ BK254.out 0
   have hfz6_1 := qg_ BK254.out 1
   have hfz6_2 := qg_ BK254.out 2
   have hfz6_3 := qg_ BK254.out 3
   have hfz6_4 := qg_ BK254.out 4
   have hfz6_5 := qg_ BK254.out 5
   go_wp2
   go_meet
   case rel => exact ⟨_, (true), (by first | rfl | (simp; done) | (simp [*]; done)), H', ⟨by first | omega | exact Nat.le_refl _⟩, ⟨by (with_reducible repeat (first | refine qd_ ?_ _ | refine qh_ ?_)); exact BK254.out⟩, ⟨by repeat (first | (with_reducible first | exact HB.out | apply qe_ | apply qa_ | apply qc_ | refine qf_ ?_ GE254.out) | exact HB.out)⟩⟩
  ·rw [if_neg c5] at H
   have c5b0 : decide (a0_0 < 1) = false := decide_eq_false c5
   clear c5
   (first | rw [c5b0] | (simp only [i64_w, i32_w]; rw [c5b0]) | skip)
   have H' := qi_.mk H
   clear H
   have hcz7_0 : w3.cell? ⟨gb254, 0, none⟩ = some (.int .i64 a0_0) := (qb_ BK254.out 0).trans rfl
   have hcz7_1 : w3.cell? ⟨gb254, 1, none⟩ = some (.int .i64 a0_1) := (qb_ BK254.out 1).trans rfl
   have hcz7_2 : w3.cell? ⟨gb254, 2, none⟩ = some (.int .i64 a0_2) := (qb_ BK254.out 2).trans rfl
   have hcz7_3 : w3.cell? ⟨gb254, 3, none⟩ = some (.int .i64 a0_3) := (qb_ BK254.out 3).trans rfl
   have hcz7_4 : w3.cell? ⟨gb254, 4, none⟩ = some (.string a0_4) := (qb_ BK254.out 4).trans rfl
   have hcz7_5 : w3.cell? ⟨gb254, 5, none⟩ = some (.slice A0_5 l0_5.length c0_5) := (qb_ BK254.out 5).trans rfl
   have hfz7_0 := qg_ BK254.out 0
   have hfz7_1 := qg_ BK254.out 1
   have hfz7_2 := qg_ BK254.out 2
   have hfz7_3 := qg_ BK254.out 3
   have hfz7_4 := qg_ BK254.out 4
   have hfz7_5 := qg_ BK254.out 5
   go_wp2
   go_meet
   case rel => exact ⟨_, (decide (a0_0 > 4)), (by first | rfl | (simp; done) | (simp [*]; done)), H', ⟨by first | omega | exact Nat.le_refl _⟩, ⟨by (with_reducible repeat (first | refine qd_ ?_ _ | refine qh_ ?_)); exact BK254.out⟩, ⟨by repeat (first | (with_reducible first | exact HB.out | apply qe_ | apply qa_ | apply qc_ | refine qf_ ?_ GE254.out) | exact HB.out)⟩⟩
 case rest =>
  clear HC2
  try clear c2
  try clear p2
  try clear c5
  try clear c5b0
  try clear hcz4_0
  try clear hcz4_1
  try clear hcz4_2
  try clear hcz4_3
  try clear hcz4_4
  try clear hcz4_5
  try clear hcz6_0
  try clear hcz6_1
  try clear hcz6_2
  try clear hcz6_3
  try clear hcz6_4
  try clear hcz6_5
  try clear hcz7_0
  try clear hcz7_1
  try clear hcz7_2
  try clear hcz7_3
  try clear hcz7_4
  try clear hcz7_5
  try clear hfz4_0
  try clear hfz4_1
  try clear hfz4_2
  try clear hfz4_3
  try clear hfz4_4
  try clear hfz4_5
  try clear hfz6_0
  try clear hfz6_1
  try clear hfz6_2
  try clear hfz6_3
  try clear hfz6_4
  try clear hfz6_5
  try clear hfz7_0
  try clear hfz7_1
  try clear hfz7_2
  try clear hfz7_3
  try clear hfz7_4
  try clear hfz7_5
  obtain ⟨kq, x16_1, rfl, HA, HJ1, BK254, HB⟩ := hcut
  cases kq with
  | zero => exact absurd HA.out (by simp [qj_.j0])
  | succ kj1 =>
   have H := HA.out
   clear HA
   simp only [qj_.j0] at H
   by_cases c8 : x16_1 = true
   ·subst c8
    have H1 : (some 4) = some r := by rw [if_pos rfl] at H; exact H
    clear H
    have H := H1
    clear H1
    obtain rfl := Option.some.inj H
    go_wp2
    go_ret
    exact ⟨by first | rfl | (simp [*] <;> rfl), by repeat (first | (with_reducible first | exact HB.out | apply qe_ | apply qa_ | apply qc_ | refine qf_ ?_ GE254.out) | exact HB.out)⟩
   ·replace c8 := Bool.eq_false_iff.mpr c8
    subst c8
    have H1 : (if a0_0 = 1 then (if a0_2 = 0 then (qj_.j1 kj1 (decide ((l0_5.length : Int) > 0)) (decide ((l0_5.length : Int) > 0)) a0_0 a0_1 a0_2 a0_3 a0_4 l0_5) else (qj_.j1 kj1 (decide ((l0_5.length : Int) > 0)) true a0_0 a0_1 a0_2 a0_3 a0_4 l0_5)) else (qj_.j1 kj1 (decide ((l0_5.length : Int) > 0)) false a0_0 a0_1 a0_2 a0_3 a0_4 l0_5)) = some r := by rw [if_neg (show ¬ (false = true) by decide)] at H; exact H
    clear H
    have H := H1
    clear H1
    have HC9 := qi_.mk H
    clear H
    go_upto_region 4 with (fail)
    go_cut [27] (fun v27 wc => ∃ (kq : Nat) (x27_8 : Bool), v27 = .bool x27_8 ∧ qi_ (qj_.j1 kq (decide ((l0_5.length : Int) > 0)) x27_8 a0_0 a0_1 a0_2 a0_3 a0_4 l0_5 = some r) ∧ qi_ (kq ≤ kj1) ∧ qi_ (wc.heap[gb254]? = some (.cells #[.int .i64 a0_0, .int .i64 a0_1, .int .i64 a0_2, .int .i64 a0_3, .string a0_4, (.slice A0_5 l0_5.length c0_5)] 43 (0, 0))) ∧ qi_ (Below w.heap.size w wc))
    case first =>
     have H := HC9.out
     clear HC9
     by_cases c10 : a0_0 = 1
     ·rw [if_pos c10] at H
      have c10b0 : (a0_0 == 1) = true := beq_iff_eq.mpr c10
      have c10b1 : (a0_0 != 1) = false := bne_eq_false_iff_eq.mpr c10
      clear c10
      (first | rw [c10b0] | (simp only [i64_w, i32_w]; rw [c10b0]) | skip)
      by_cases c11 : a0_2 = 0
      ·rw [if_pos c11] at H
       have c11b0 : (a0_2 == 0) = true := beq_iff_eq.mpr c11
       have c11b1 : (a0_2 != 0) = false := bne_eq_false_iff_eq.mpr c11
       clear c11
       have H' := qi_.mk H
       clear H
       have hcz12_0 : wc.cell? ⟨gb254, 0, none⟩ = some (.int .i64 a0_0) := (qb_ BK254.out 0).trans rfl
       have hcz12_1 : wc.cell? ⟨gb254, 1, none⟩ = some (.int .i64 a0_1) := (qb_ BK254.out 1).trans rfl
       have hcz12_2 : wc.cell? ⟨gb254, 2, none⟩ = some (.int .i64 a0_2) := (qb_ BK254.out 2).trans rfl
       have hcz12_3 : wc.cell? ⟨gb254, 3, none⟩ = some (.int .i64 a0_3) := (qb_ BK254.out 3).trans rfl
       have hcz12_4 : wc.cell? ⟨gb254, 4, none⟩ = some (.string a0_4) := (qb_ BK254.out 4).trans rfl
       have hcz12_5 : wc.cell? ⟨gb254, 5, none⟩ = some (.slice A0_5 l0_5.length c0_5) := (qb_ BK254.out 5).trans rfl
       have hfz12_0 := qg_ BK254.out 0
       have hfz12_1 := qg_ BK254.out 1
       have hfz12_2 := qg_ BK254.out 2
       have hfz12_3 := qg_ BK254.out 3
       have hfz12_4 := qg_ BK254.out 4
       have hfz12_5 := qg_ BK254.out 5
       go_wp2
       go_meet
       case rel => exact ⟨_, ((decide ((l0_5.length : Int) > 0))), (by first | rfl | (simp; done) | (simp [*]; done)), H', ⟨by have := HJ1.out; first | omega | exact Nat.le_refl _⟩, ⟨by (with_reducible repeat (first | refine qd_ ?_ _ | refine qh_ ?_)); exact BK254.out⟩, ⟨by repeat (first | (with_reducible first | exact HB.out | apply qe_ | apply qa_ | apply qc_ | refine qf_ ?_ GE254.out) | exact HB.out)⟩⟩
      ·rw [if_neg c11] at H
       have c11b0 : (a0_2 == 0) = false := beq_eq_false_iff_ne.mpr c11
       have c11b1 : (a0_2 != 0) = true := bne_iff_ne.mpr c11
       have H' := qi_.mk H
       clear H
       have hcz13_0 : wc.cell? ⟨gb254, 0, none⟩ = some (.int .i64 a0_0) := (qb_ BK254.out 0).trans rfl
       have hcz13_1 : wc.cell? ⟨gb254, 1, none⟩ = some (.int .i64 a0_1) := (qb_ BK254.out 1).trans rfl
       have hcz13_2 : wc.cell? ⟨gb254, 2, none⟩ = some (.int .i64 a0_2) := (qb_ BK254.out 2).trans rfl
       have hcz13_3 : wc.cell? ⟨gb254, 3, none⟩ = some (.int .i64 a0_3) := (qb_ BK254.out 3).trans rfl
       have hcz13_4 : wc.cell? ⟨gb254, 4, none⟩ = some (.string a0_4) := (qb_ BK254.out 4).trans rfl
       have hcz13_5 : wc.cell? ⟨gb254, 5, none⟩ = some (.slice A0_5 l0_5.length c0_5) := (qb_ BK254.out 5).trans rfl
       have hfz13_0 := qg_ BK254.out 0
       have hfz13_1 := qg_ BK254.out 1
       have hfz13_2 := qg_ BK254.out 2
       have hfz13_3 := qg_ BK254.out 3
       have hfz13_4 := qg_ BK254.out 4
       have hfz13_5 := qg_ BK254.out 5
       go_wp2
       go_meet
       case rel => exact ⟨_, (true), (by first | rfl | (simp; done) | (simp [*]; done)), H', ⟨by have := HJ1.out; first | omega | exact Nat.le_refl _⟩, ⟨by (with_reducible repeat (first | refine qd_ ?_ _ | refine qh_ ?_)); exact BK254.out⟩, ⟨by repeat (first | (with_reducible first | exact HB.out | apply qe_ | apply qa_ | apply qc_ | refine qf_ ?_ GE254.out) | exact HB.out)⟩⟩
     ·rw [if_neg c10] at H
      have c10b0 : (a0_0 == 1) = false := beq_eq_false_iff_ne.mpr c10
      have c10b1 : (a0_0 != 1) = true := bne_iff_ne.mpr c10
      (first | rw [c10b0] | (simp only [i64_w, i32_w]; rw [c10b0]) | skip)
      have H' := qi_.mk H
      clear H
      have hcz14_0 : wc.cell? ⟨gb254, 0, none⟩ = some (.int .i64 a0_0) := (qb_ BK254.out 0).trans rfl
      have hcz14_1 : wc.cell? ⟨gb254, 1, none⟩ = some (.int .i64 a0_1) := (qb_ BK254.out 1).trans rfl
      have hcz14_2 : wc.cell? ⟨gb254, 2, none⟩ = some (.int .i64 a0_2) := (qb_ BK254.out 2).trans rfl
      have hcz14_3 : wc.cell? ⟨gb254, 3, none⟩ = some (.int .i64 a0_3) := (qb_ BK254.out 3).trans rfl
      have hcz14_4 : wc.cell? ⟨gb254, 4, none⟩ = some (.string a0_4) := (qb_ BK254.out 4).trans rfl
      have hcz14_5 : wc.cell? ⟨gb254, 5, none⟩ = some (.slice A0_5 l0_5.length c0_5) := (qb_ BK254.out 5).trans rfl
      have hfz14_0 := qg_ BK254.out 0
      have hfz14_1 := qg_ BK254.out 1
      have hfz14_2 := qg_ BK254.out 2
      have hfz14_3 := qg_ BK254.out 3
      have hfz14_4 := qg_ BK254.out 4
      have hfz14_5 := qg_ BK254.out 5
      go_wp2
      go_meet
      case rel => exact ⟨_, (false), (by first | rfl | (simp; done) | (simp [*]; done)), H', ⟨by have := HJ1.out; first | omega | exact Nat.le_refl _⟩, ⟨by (with_reducible repeat (first | refine qd_ ?_ _ | refine qh_ ?_)); exact BK254.out⟩, ⟨by repeat (first | (with_reducible first | exact HB.out | apply qe_ | apply qa_ | apply qc_ | refine qf_ ?_ GE254.out) | exact HB.out)⟩⟩
    case rest =>
     clear HC9
     try clear c1
     try clear c2
     try clear p2
     try clear c5
     try clear c5b0
     try clear c8
     try clear c10
     try clear c10b0
     try clear c10b1
     try clear c11
     try clear c11b0
     try clear c11b1
     try clear hcz12_0
     try clear hcz12_1
     try clear hcz12_2
     try clear hcz12_3
     try clear hcz12_4
     try clear hcz12_5
     try clear hcz13_0
     try clear hcz13_1
     try clear hcz13_2
     try clear hcz13_3
     try clear hcz13_4
     try clear hcz13_5
     try clear hcz14_0
     try clear hcz14_1
     try clear hcz14_2
     try clear hcz14_3
     try clear hcz14_4
     try clear hcz14_5
     try clear hcz4_0
     try clear hcz4_1
     try clear hcz4_2
     try clear hcz4_3
     try clear hcz4_4
     try clear hcz4_5
     try clear hcz6_0
     try clear hcz6_1
     try clear hcz6_2
     try clear hcz6_3
     try clear hcz6_4
     try clear hcz6_5
     try clear hcz7_0
     try clear hcz7_1
     try clear hcz7_2
     try clear hcz7_3
     try clear hcz7_4
     try clear hcz7_5
     try clear hfz12_0
     try clear hfz12_1
     try clear hfz12_2
     try clear hfz12_3
     try clear hfz12_4
     try clear hfz12_5
     try clear hfz13_0
     try clear hfz13_1
     try clear hfz13_2
     try clear hfz13_3
     try clear hfz13_4
     try clear hfz13_5
     try clear hfz14_0
     try clear hfz14_1
     try clear hfz14_2
     try clear hfz14_3
     try clear hfz14_4
     try clear hfz14_5
     try clear hfz4_0
     try clear hfz4_1
     try clear hfz4_2
     try clear hfz4_3
     try clear hfz4_4
     try clear hfz4_5
     try clear hfz6_0
     try clear hfz6_1
     try clear hfz6_2
     try clear hfz6_3
     try clear hfz6_4
     try clear hfz6_5
     try clear hfz7_0
     try clear hfz7_1
     try clear hfz7_2
     try clear hfz7_3
     try clear hfz7_4
     try clear hfz7_5
     try clear p2
     obtain ⟨kq, x27_8, rfl, HA, HJ8, BK254, HB⟩ := hcut
     cases kq with
     | zero => exact absurd HA.out (by simp [qj_.j1])
     | succ kj8 =>
      have H := HA.out
      clear HA
      simp only [qj_.j1] at H
      by_cases c15 : x27_8 = true
      ·subst c15
       have H1 : (some 5) = some r := by rw [if_pos rfl] at H; exact H
       clear H
       have H := H1
       clear H1
       obtain rfl := Option.some.inj H
       go_wp2
       go_ret
       exact ⟨by first | rfl | (simp [*] <;> rfl), by repeat (first | (with_reducible first | exact HB.out | apply qe_ | apply qa_ | apply qc_ | refine qf_ ?_ GE254.out) | exact HB.out)⟩
      ·replace c15 := Bool.eq_false_iff.mpr c15
       subst c15
       have H1 : (if a0_0 = 2 then (if a0_3 = 0 then (qj_.j2 kj8 (decide ((l0_5.length : Int) > 0)) (decide ((l0_5.length : Int) > 0)) a0_0 a0_1 a0_2 a0_3 a0_4 l0_5) else (qj_.j2 kj8 (decide ((l0_5.length : Int) > 0)) true a0_0 a0_1 a0_2 a0_3 a0_4 l0_5)) else (qj_.j2 kj8 (decide ((l0_5.length : Int) > 0)) false a0_0 a0_1 a0_2 a0_3 a0_4 l0_5)) = some r := by rw [if_neg (show ¬ (false = true) by decide)] at H; exact H
       clear H
       have H := H1
       clear H1
       have HC16 := qi_.mk H
       clear H
       go_upto_region 6 with (fail)
       go_cut [38] (fun v38 wc => ∃ (kq : Nat) (x38_15 : Bool), v38 = .bool x38_15 ∧ qi_ (qj_.j2 kq (decide ((l0_5.length : Int) > 0)) x38_15 a0_0 a0_1 a0_2 a0_3 a0_4 l0_5 = some r) ∧ qi_ (kq ≤ kj8) ∧ qi_ (wc.heap[gb254]? = some (.cells #[.int .i64 a0_0, .int .i64 a0_1, .int .i64 a0_2, .int .i64 a0_3, .string a0_4, (.slice A0_5 l0_5.length c0_5)] 43 (0, 0))) ∧ qi_ (Below w.heap.size w wc))
       case first =>
        have H := HC16.out
        clear HC16
        by_cases c17 : a0_0 = 2
        ·rw [if_pos c17] at H
         have c17b0 : (a0_0 == 2) = true := beq_iff_eq.mpr c17
         have c17b1 : (a0_0 != 2) = false := bne_eq_false_iff_eq.mpr c17
         clear c17
         (first | rw [c17b0] | (simp only [i64_w, i32_w]; rw [c17b0]) | skip)
         by_cases c18 : a0_3 = 0
         ·rw [if_pos c18] at H
          have c18b0 : (a0_3 == 0) = true := beq_iff_eq.mpr c18
          have c18b1 : (a0_3 != 0) = false := bne_eq_false_iff_eq.mpr c18
          clear c18
          have H' := qi_.mk H
          clear H
          have hcz19_0 : wc.cell? ⟨gb254, 0, none⟩ = some (.int .i64 a0_0) := (qb_ BK254.out 0).trans rfl
          have hcz19_1 : wc.cell? ⟨gb254, 1, none⟩ = some (.int .i64 a0_1) := (qb_ BK254.out 1).trans rfl
          have hcz19_2 : wc.cell? ⟨gb254, 2, none⟩ = some (.int .i64 a0_2) := (qb_ BK254.out 2).trans rfl
          have hcz19_3 : wc.cell? ⟨gb254, 3, none⟩ = some (.int .i64 a0_3) := (qb_ BK254.out 3).trans rfl
          have hcz19_4 : wc.cell? ⟨gb254, 4, none⟩ = some (.string a0_4) := (qb_ BK254.out 4).trans rfl
          have hcz19_5 : wc.cell? ⟨gb254, 5, none⟩ = some (.slice A0_5 l0_5.length c0_5) := (qb_ BK254.out 5).trans rfl
          have hfz19_0 := qg_ BK254.out 0
          have hfz19_1 := qg_ BK254.out 1
          have hfz19_2 := qg_ BK254.out 2
          have hfz19_3 := qg_ BK254.out 3
          have hfz19_4 := qg_ BK254.out 4
          have hfz19_5 := qg_ BK254.out 5
          go_wp2
          go_meet
          case rel => exact ⟨_, ((decide ((l0_5.length : Int) > 0))), (by first | rfl | (simp; done) | (simp [*]; done)), H', ⟨by have := HJ1.out; have := HJ8.out; first | omega | exact Nat.le_refl _⟩, ⟨by (with_reducible repeat (first | refine qd_ ?_ _ | refine qh_ ?_)); exact BK254.out⟩, ⟨by repeat (first | (with_reducible first | exact HB.out | apply qe_ | apply qa_ | apply qc_ | refine qf_ ?_ GE254.out) | exact HB.out)⟩⟩
         ·rw [if_neg c18] at H
          have c18b0 : (a0_3 == 0) = false := beq_eq_false_iff_ne.mpr c18
          have c18b1 : (a0_3 != 0) = true := bne_iff_ne.mpr c18
          have H' := qi_.mk H
          clear H
          have hcz20_0 : wc.cell? ⟨gb254, 0, none⟩ = some (.int .i64 a0_0) := (qb_ BK254.out 0).trans rfl
          have hcz20_1 : wc.cell? ⟨gb254, 1, none⟩ = some (.int .i64 a0_1) := (qb_ BK254.out 1).trans rfl
          have hcz20_2 : wc.cell? ⟨gb254, 2, none⟩ = some (.int .i64 a0_2) := (qb_ BK254.out 2).trans rfl
          have hcz20_3 : wc.cell? ⟨gb254, 3, none⟩ = some (.int .i64 a0_3) := (qb_ BK254.out 3).trans rfl
          have hcz20_4 : wc.cell? ⟨gb254, 4, none⟩ = some (.string a0_4) := (qb_ BK254.out 4).trans rfl
          have hcz20_5 : wc.cell? ⟨gb254, 5, none⟩ = some (.slice A0_5 l0_5.length c0_5) := (qb_ BK254.out 5).trans rfl
          have hfz20_0 := qg_ BK254.out 0
          have hfz20_1 := qg_ BK254.out 1
          have hfz20_2 := qg_ BK254.out 2
          have hfz20_3 := qg_ BK254.out 3
          have hfz20_4 := qg_ BK254.out 4
          have hfz20_5 := qg_ BK254.out 5
          go_wp2
          go_meet
          case rel => exact ⟨_, (true), (by first | rfl | (simp; done) | (simp [*]; done)), H', ⟨by have := HJ1.out; have := HJ8.out; first | omega | exact Nat.le_refl _⟩, ⟨by (with_reducible repeat (first | refine qd_ ?_ _ | refine qh_ ?_)); exact BK254.out⟩, ⟨by repeat (first | (with_reducible first | exact HB.out | apply qe_ | apply qa_ | apply qc_ | refine qf_ ?_ GE254.out) | exact HB.out)⟩⟩
        ·rw [if_neg c17] at H
         have c17b0 : (a0_0 == 2) = false := beq_eq_false_iff_ne.mpr c17
         have c17b1 : (a0_0 != 2) = true := bne_iff_ne.mpr c17
         (first | rw [c17b0] | (simp only [i64_w, i32_w]; rw [c17b0]) | skip)
         have H' := qi_.mk H
         clear H
         have hcz21_0 : wc.cell? ⟨gb254, 0, none⟩ = some (.int .i64 a0_0) := (qb_ BK254.out 0).trans rfl
         have hcz21_1 : wc.cell? ⟨gb254, 1, none⟩ = some (.int .i64 a0_1) := (qb_ BK254.out 1).trans rfl
         have hcz21_2 : wc.cell? ⟨gb254, 2, none⟩ = some (.int .i64 a0_2) := (qb_ BK254.out 2).trans rfl
         have hcz21_3 : wc.cell? ⟨gb254, 3, none⟩ = some (.int .i64 a0_3) := (qb_ BK254.out 3).trans rfl
         have hcz21_4 : wc.cell? ⟨gb254, 4, none⟩ = some (.string a0_4) := (qb_ BK254.out 4).trans rfl
         have hcz21_5 : wc.cell? ⟨gb254, 5, none⟩ = some (.slice A0_5 l0_5.length c0_5) := (qb_ BK254.out 5).trans rfl
         have hfz21_0 := qg_ BK254.out 0
         have hfz21_1 := qg_ BK254.out 1
         have hfz21_2 := qg_ BK254.out 2
         have hfz21_3 := qg_ BK254.out 3
         have hfz21_4 := qg_ BK254.out 4
         have hfz21_5 := qg_ BK254.out 5
         go_wp2
         go_meet
         case rel => exact ⟨_, (false), (by first | rfl | (simp; done) | (simp [*]; done)), H', ⟨by have := HJ1.out; have := HJ8.out; first | omega | exact Nat.le_refl _⟩, ⟨by (with_reducible repeat (first | refine qd_ ?_ _ | refine qh_ ?_)); exact BK254.out⟩, ⟨by repeat (first | (with_reducible first | exact HB.out | apply qe_ | apply qa_ | apply qc_ | refine qf_ ?_ GE254.out) | exact HB.out)⟩⟩
       case rest =>
        clear HC16
        try clear c1
        try clear c2
        try clear p2
        try clear c5
        try clear c5b0
        try clear c8
        try clear c10
        try clear c10b0
        try clear c10b1
        try clear c11
        try clear c11b0
        try clear c11b1
        try clear c15
        try clear c17
        try clear c17b0
        try clear c17b1
        try clear c18
        try clear c18b0
        try clear c18b1
        try clear c21
        try clear hcz12_0
        try clear hcz12_1
        try clear hcz12_2
        try clear hcz12_3
        try clear hcz12_4
        try clear hcz12_5
        try clear hcz13_0
        try clear hcz13_1
        try clear hcz13_2
        try clear hcz13_3
        try clear hcz13_4
        try clear hcz13_5
        try clear hcz14_0
        try clear hcz14_1
        try clear hcz14_2
        try clear hcz14_3
        try clear hcz14_4
        try clear hcz14_5
        try clear hcz19_0
        try clear hcz19_1
        try clear hcz19_2
        try clear hcz19_3
        try clear hcz19_4
        try clear hcz19_5
        try clear hcz20_0
        try clear hcz20_1
        try clear hcz20_2
        try clear hcz20_3
        try clear hcz20_4
        try clear hcz20_5
        try clear hcz21_0
        try clear hcz21_1
        try clear hcz21_2
        try clear hcz21_3
        try clear hcz21_4
        try clear hcz21_5
        try clear hcz4_0
        try clear hcz4_1
        try clear hcz4_2
        try clear hcz4_3
        try clear hcz4_4
        try clear hcz4_5
        try clear hcz6_0
        try clear hcz6_1
        try clear hcz6_2
        try clear hcz6_3
        try clear hcz6_4
        try clear hcz6_5
        try clear hcz7_0
        try clear hcz7_1
        try clear hcz7_2
        try clear hcz7_3
        try clear hcz7_4
        try clear hcz7_5
        try clear hfz12_0
        try clear hfz12_1
        try clear hfz12_2
        try clear hfz12_3
        try clear hfz12_4
        try clear hfz12_5
        try clear hfz13_0
        try clear hfz13_1
        try clear hfz13_2
        try clear hfz13_3
        try clear hfz13_4
        try clear hfz13_5
        try clear hfz14_0
        try clear hfz14_1
        try clear hfz14_2
        try clear hfz14_3
        try clear hfz14_4
        try clear hfz14_5
        try clear hfz19_0
        try clear hfz19_1
        try clear hfz19_2
        try clear hfz19_3
        try clear hfz19_4
        try clear hfz19_5
        try clear hfz20_0
        try clear hfz20_1
        try clear hfz20_2
        try clear hfz20_3
        try clear hfz20_4
        try clear hfz20_5
        try clear hfz21_0
        try clear hfz21_1
        try clear hfz21_2
        try clear hfz21_3
        try clear hfz21_4
        try clear hfz21_5
        try clear hfz4_0
        try clear hfz4_1
        try clear hfz4_2
        try clear hfz4_3
        try clear hfz4_4
        try clear hfz4_5
        try clear hfz6_0
        try clear hfz6_1
        try clear hfz6_2
        try clear hfz6_3
        try clear hfz6_4
        try clear hfz6_5
        try clear hfz7_0
        try clear hfz7_1
        try clear hfz7_2
        try clear hfz7_3
        try clear hfz7_4
        try clear hfz7_5
        try clear p2
        obtain ⟨kq, x38_15, rfl, HA, HJ15, BK254, HB⟩ := hcut
        cases kq with
        | zero => exact absurd HA.out (by simp [qj_.j2])
        | succ kj15 =>
         have H := HA.out
         clear HA
         simp only [qj_.j2] at H
         by_cases c22 : x38_15 = true
         ·subst c22
          have H1 : (some 5) = some r := by rw [if_pos rfl] at H; exact H
          clear H
          have H := H1
          clear H1
          obtain rfl := Option.some.inj H
          go_wp2
          go_ret
          exact ⟨by first | rfl | (simp [*] <;> rfl), by repeat (first | (with_reducible first | exact HB.out | apply qe_ | apply qa_ | apply qc_ | refine qf_ ?_ GE254.out) | exact HB.out)⟩
         ·replace c22 := Bool.eq_false_iff.mpr c22
          subst c22
          have H1 : (if a0_0 = 3 then (if a0_3 = 0 then (if a0_4.toList = ([] : List UInt8) then (qj_.j3 kj15 (decide ((l0_5.length : Int) > 0)) a0_0 a0_1 a0_2 a0_3 a0_4 l0_5) else (qj_.j3 kj15 true a0_0 a0_1 a0_2 a0_3 a0_4 l0_5)) else (qj_.j3 kj15 true a0_0 a0_1 a0_2 a0_3 a0_4 l0_5)) else (qj_.j3 kj15 false a0_0 a0_1 a0_2 a0_3 a0_4 l0_5)) = some r := by rw [if_neg (show ¬ (false = true) by decide)] at H; exact H
          clear H
          have H := H1
          clear H1
          have HC23 := qi_.mk H
          clear H
          go_upto_region 8 with (fail)
          go_cut [54] (fun v54 wc => ∃ (kq : Nat) (x54_22 : Bool), v54 = .bool x54_22 ∧ qi_ (qj_.j3 kq x54_22 a0_0 a0_1 a0_2 a0_3 a0_4 l0_5 = some r) ∧ qi_ (kq ≤ kj15) ∧ qi_ (wc.heap[gb254]? = some (.cells #[.int .i64 a0_0, .int .i64 a0_1, .int .i64 a0_2, .int .i64 a0_3, .string a0_4, (.slice A0_5 l0_5.length c0_5)] 43 (0, 0))) ∧ qi_ (Below w.heap.size w wc))
          case first =>
           have H := HC23.out
           clear HC23
           by_cases c24 : a0_0 = 3
           ·rw [if_pos c24] at H
            have c24b0 : (a0_0 == 3) = true := beq_iff_eq.mpr c24
            have c24b1 : (a0_0 != 3) = false := bne_eq_false_iff_eq.mpr c24
            clear c24
            (first | rw [c24b0] | (simp only [i64_w, i32_w]; rw [c24b0]) | skip)
            by_cases c25 : a0_3 = 0
            ·rw [if_pos c25] at H
             have c25b0 : (a0_3 == 0) = true := beq_iff_eq.mpr c25
             have c25b1 : (a0_3 != 0) = false := bne_eq_false_iff_eq.mpr c25
             clear c25
             by_cases c26 : a0_4.toList = ([] : List UInt8)
             ·rw [if_pos c26] at H
              have c26b0 : (a0_4.toList == ([] : List UInt8)) = true := beq_iff_eq.mpr c26
              have c26b1 : (a0_4.toList != ([] : List UInt8)) = false := bne_eq_false_iff_eq.mpr c26
              clear c26
              have H' := qi_.mk H
              clear H
              have hcz27_0 : wc.cell? ⟨gb254, 0, none⟩ = some (.int .i64 a0_0) := (qb_ BK254.out 0).trans rfl
              have hcz27_1 : wc.cell? ⟨gb254, 1, none⟩ = some (.int .i64 a0_1) := (qb_ BK254.out 1).trans rfl
              have hcz27_2 : wc.cell? ⟨gb254, 2, none⟩ = some (.int .i64 a0_2) := (qb_ BK254.out 2).trans rfl
              have hcz27_3 : wc.cell? ⟨gb254, 3, none⟩ = some (.int .i64 a0_3) := (qb_ BK254.out 3).trans rfl
              have hcz27_4 : wc.cell? ⟨gb254, 4, none⟩ = some (.string a0_4) := (qb_ BK254.out 4).trans rfl
              have hcz27_5 : wc.cell? ⟨gb254, 5, none⟩ = some (.slice A0_5 l0_5.length c0_5) := (qb_ BK254.out 5).trans rfl
              have hfz27_0 := qg_ BK254.out 0
              have hfz27_1 := qg_ BK254.out 1
              have hfz27_2 := qg_ BK254.out 2
              have hfz27_3 := qg_ BK254.out 3
              have hfz27_4 := qg_ BK254.out 4
              have hfz27_5 := qg_ BK254.out 5
              go_wp2
              go_meet
              case rel => exact ⟨_, ((decide ((l0_5.length : Int) > 0))), (by first | rfl | (simp; done) | (simp [*]; done)), H', ⟨by have := HJ1.out; have := HJ8.out; have := HJ15.out; first | omega | exact Nat.le_refl _⟩, ⟨by (with_reducible repeat (first | refine qd_ ?_ _ | refine qh_ ?_)); exact BK254.out⟩, ⟨by repeat (first | (with_reducible first | exact HB.out | apply qe_ | apply qa_ | apply qc_ | refine qf_ ?_ GE254.out) | exact HB.out)⟩⟩
             ·rw [if_neg c26] at H
              have c26b0 : (a0_4.toList == ([] : List UInt8)) = false := beq_eq_false_iff_ne.mpr c26
              have c26b1 : (a0_4.toList != ([] : List UInt8)) = true := bne_iff_ne.mpr c26
              have H' := qi_.mk H
              clear H
              have hcz28_0 : wc.cell? ⟨gb254, 0, none⟩ = some (.int .i64 a0_0) := (qb_ BK254.out 0).trans rfl
              have hcz28_1 : wc.cell? ⟨gb254, 1, none⟩ = some (.int .i64 a0_1) := (qb_ BK254.out 1).trans rfl
              have hcz28_2 : wc.cell? ⟨gb254, 2, none⟩ = some (.int .i64 a0_2) := (qb_ BK254.out 2).trans rfl
              have hcz28_3 : wc.cell? ⟨gb254, 3, none⟩ = some (.int .i64 a0_3) := (qb_ BK254.out 3).trans rfl
              have hcz28_4 : wc.cell? ⟨gb254, 4, none⟩ = some (.string a0_4) := (qb_ BK254.out 4).trans rfl
              have hcz28_5 : wc.cell? ⟨gb254, 5, none⟩ = some (.slice A0_5 l0_5.length c0_5) := (qb_ BK254.out 5).trans rfl
              have hfz28_0 := qg_ BK254.out 0
              have hfz28_1 := qg_ BK254.out 1
              have hfz28_2 := qg_ BK254.out 2
              have hfz28_3 := qg_ BK254.out 3
              have hfz28_4 := qg_ BK254.out 4
              have hfz28_5 := qg_ BK254.out 5
              go_wp2
              go_meet
              case rel => exact ⟨_, (true), (by first | rfl | (simp; done) | (simp [*]; done)), H', ⟨by have := HJ1.out; have := HJ8.out; have := HJ15.out; first | omega | exact Nat.le_refl _⟩, ⟨by (with_reducible repeat (first | refine qd_ ?_ _ | refine qh_ ?_)); exact BK254.out⟩, ⟨by repeat (first | (with_reducible first | exact HB.out | apply qe_ | apply qa_ | apply qc_ | refine qf_ ?_ GE254.out) | exact HB.out)⟩⟩
            ·rw [if_neg c25] at H
             have c25b0 : (a0_3 == 0) = false := beq_eq_false_iff_ne.mpr c25
             have c25b1 : (a0_3 != 0) = true := bne_iff_ne.mpr c25
             have H' := qi_.mk H
             clear H
             have hcz29_0 : wc.cell? ⟨gb254, 0, none⟩ = some (.int .i64 a0_0) := (qb_ BK254.out 0).trans rfl
             have hcz29_1 : wc.cell? ⟨gb254, 1, none⟩ = some (.int .i64 a0_1) := (qb_ BK254.out 1).trans rfl
             have hcz29_2 : wc.cell? ⟨gb254, 2, none⟩ = some (.int .i64 a0_2) := (qb_ BK254.out 2).trans rfl
             have hcz29_3 : wc.cell? ⟨gb254, 3, none⟩ = some (.int .i64 a0_3) := (qb_ BK254.out 3).trans rfl
             have hcz29_4 : wc.cell? ⟨gb254, 4, none⟩ = some (.string a0_4) := (qb_ BK254.out 4).trans rfl
             have hcz29_5 : wc.cell? ⟨gb254, 5, none⟩ = some (.slice A0_5 l0_5.length c0_5) := (qb_ BK254.out 5).trans rfl
             have hfz29_0 := qg_ BK254.out 0
             have hfz29_1 := qg_ BK254.out 1
             have hfz29_2 := qg_ BK254.out 2
             have hfz29_3 := qg_ BK254.out 3
             have hfz29_4 := qg_ BK254.out 4
             have hfz29_5 := qg_ BK254.out 5
             go_wp2
             go_meet
             case rel => exact ⟨_, (true), (by first | rfl | (simp; done) | (simp [*]; done)), H', ⟨by have := HJ1.out; have := HJ8.out; have := HJ15.out; first | omega | exact Nat.le_refl _⟩, ⟨by (with_reducible repeat (first | refine qd_ ?_ _ | refine qh_ ?_)); exact BK254.out⟩, ⟨by repeat (first | (with_reducible first | exact HB.out | apply qe_ | apply qa_ | apply qc_ | refine qf_ ?_ GE254.out) | exact HB.out)⟩⟩
           ·rw [if_neg c24] at H
            have c24b0 : (a0_0 == 3) = false := beq_eq_false_iff_ne.mpr c24
            have c24b1 : (a0_0 != 3) = true := bne_iff_ne.mpr c24
            (first | rw [c24b0] | (simp only [i64_w, i32_w]; rw [c24b0]) | skip)
            have H' := qi_.mk H
            clear H
            have hcz30_0 : wc.cell? ⟨gb254, 0, none⟩ = some (.int .i64 a0_0) := (qb_ BK254.out 0).trans rfl
            have hcz30_1 : wc.cell? ⟨gb254, 1, none⟩ = some (.int .i64 a0_1) := (qb_ BK254.out 1).trans rfl
            have hcz30_2 : wc.cell? ⟨gb254, 2, none⟩ = some (.int .i64 a0_2) := (qb_ BK254.out 2).trans rfl
            have hcz30_3 : wc.cell? ⟨gb254, 3, none⟩ = some (.int .i64 a0_3) := (qb_ BK254.out 3).trans rfl
            have hcz30_4 : wc.cell? ⟨gb254, 4, none⟩ = some (.string a0_4) := (qb_ BK254.out 4).trans rfl
            have hcz30_5 : wc.cell? ⟨gb254, 5, none⟩ = some (.slice A0_5 l0_5.length c0_5) := (qb_ BK254.out 5).trans rfl
            have hfz30_0 := qg_ BK254.out 0
            have hfz30_1 := qg_ BK254.out 1
            have hfz30_2 := qg_ BK254.out 2
            have hfz30_3 := qg_ BK254.out 3
            have hfz30_4 := qg_ BK254.out 4
            have hfz30_5 := qg_ BK254.out 5
            go_wp2
            go_meet
            case rel => exact ⟨_, (false), (by first | rfl | (simp; done) | (simp [*]; done)), H', ⟨by have := HJ1.out; have := HJ8.out; have := HJ15.out; first | omega | exact Nat.le_refl _⟩, ⟨by (with_reducible repeat (first | refine qd_ ?_ _ | refine qh_ ?_)); exact BK254.out⟩, ⟨by repeat (first | (with_reducible first | exact HB.out | apply qe_ | apply qa_ | apply qc_ | refine qf_ ?_ GE254.out) | exact HB.out)⟩⟩
          case rest =>
           clear HC23
           try clear c1
           try clear c2
           try clear p2
           try clear c5
           try clear c5b0
           try clear c8
           try clear c10
           try clear c10b0
           try clear c10b1
           try clear c11
           try clear c11b0
           try clear c11b1
           try clear c15
           try clear c17
           try clear c17b0
           try clear c17b1
           try clear c18
           try clear c18b0
           try clear c18b1
           try clear c21
           try clear c22
           try clear c24
           try clear c24b0
           try clear c24b1
           try clear c25
           try clear c25b0
           try clear c25b1
           try clear c26
           try clear c26b0
           try clear c26b1
           try clear hcz12_0
           try clear hcz12_1
           try clear hcz12_2
           try clear hcz12_3
           try clear hcz12_4
           try clear hcz12_5
           try clear hcz13_0
           try clear hcz13_1
           try clear hcz13_2
           try clear hcz13_3
           try clear hcz13_4
           try clear hcz13_5
           try clear hcz14_0
           try clear hcz14_1
           try clear hcz14_2
           try clear hcz14_3
           try clear hcz14_4
           try clear hcz14_5
           try clear hcz19_0
           try clear hcz19_1
           try clear hcz19_2
           try clear hcz19_3
           try clear hcz19_4
           try clear hcz19_5
           try clear hcz20_0
           try clear hcz20_1
           try clear hcz20_2
           try clear hcz20_3
           try clear hcz20_4
           try clear hcz20_5
           try clear hcz21_0
           try clear hcz21_1
           try clear hcz21_2
           try clear hcz21_3
           try clear hcz21_4
           try clear hcz21_5
           try clear hcz27_0
           try clear hcz27_1
           try clear hcz27_2
           try clear hcz27_3
           try clear hcz27_4
           try clear hcz27_5
           try clear hcz28_0
           try clear hcz28_1
           try clear hcz28_2
           try clear hcz28_3
           try clear hcz28_4
           try clear hcz28_5
           try clear hcz29_0
           try clear hcz29_1
           try clear hcz29_2
           try clear hcz29_3
           try clear hcz29_4
           try clear hcz29_5
           try clear hcz30_0
           try clear hcz30_1
           try clear hcz30_2
           try clear hcz30_3
           try clear hcz30_4
           try clear hcz30_5
           try clear hcz4_0
           try clear hcz4_1
           try clear hcz4_2
           try clear hcz4_3
           try clear hcz4_4
           try clear hcz4_5
           try clear hcz6_0
           try clear hcz6_1
           try clear hcz6_2
           try clear hcz6_3
           try clear hcz6_4
           try clear hcz6_5
           try clear hcz7_0
           try clear hcz7_1
           try clear hcz7_2
           try clear hcz7_3
           try clear hcz7_4
           try clear hcz7_5
           try clear hfz12_0
           try clear hfz12_1
           try clear hfz12_2
           try clear hfz12_3
           try clear hfz12_4
           try clear hfz12_5
           try clear hfz13_0
           try clear hfz13_1
           try clear hfz13_2
           try clear hfz13_3
           try clear hfz13_4
           try clear hfz13_5
           try clear hfz14_0
           try clear hfz14_1
           try clear hfz14_2
           try clear hfz14_3
           try clear hfz14_4
           try clear hfz14_5
           try clear hfz19_0
           try clear hfz19_1
           try clear hfz19_2
           try clear hfz19_3
           try clear hfz19_4
           try clear hfz19_5
           try clear hfz20_0
           try clear hfz20_1
           try clear hfz20_2
           try clear hfz20_3
           try clear hfz20_4
           try clear hfz20_5
           try clear hfz21_0
           try clear hfz21_1
           try clear hfz21_2
           try clear hfz21_3
           try clear hfz21_4
           try clear hfz21_5
           try clear hfz27_0
           try clear hfz27_1
           try clear hfz27_2
           try clear hfz27_3
           try clear hfz27_4
           try clear hfz27_5
           try clear hfz28_0
           try clear hfz28_1
           try clear hfz28_2
           try clear hfz28_3
           try clear hfz28_4
           try clear hfz28_5
           try clear hfz29_0
           try clear hfz29_1
           try clear hfz29_2
           try clear hfz29_3
           try clear hfz29_4
           try clear hfz29_5
           try clear hfz30_0
           try clear hfz30_1
           try clear hfz30_2
           try clear hfz30_3
           try clear hfz30_4
           try clear hfz30_5
           try clear hfz4_0
           try clear hfz4_1
           try clear hfz4_2
           try clear hfz4_3
           try clear hfz4_4
           try clear hfz4_5
           try clear hfz6_0
           try clear hfz6_1
           try clear hfz6_2
           try clear hfz6_3
           try clear hfz6_4
           try clear hfz6_5
           try clear hfz7_0
           try clear hfz7_1
           try clear hfz7_2
           try clear hfz7_3
           try clear hfz7_4
           try clear hfz7_5
           try clear p2
           obtain ⟨kq, x54_22, rfl, HA, HJ22, BK254, HB⟩ := hcut
           cases kq with
           | zero => exact absurd HA.out (by simp [qj_.j3])
           | succ kj22 =>
            have H := HA.out
            clear HA
            simp only [qj_.j3] at H
            by_cases c31 : x54_22 = true
            ·subst c31
             have H1 : (some 5) = some r := by rw [if_pos rfl] at H; exact H
             clear H
             have H := H1
             clear H1
             obtain rfl := Option.some.inj H
             go_wp2
             go_ret
             exact ⟨by first | rfl | (simp [*] <;> rfl), by repeat (first | (with_reducible first | exact HB.out | apply qe_ | apply qa_ | apply qc_ | refine qf_ ?_ GE254.out) | exact HB.out)⟩
            ·replace c31 := Bool.eq_false_iff.mpr c31
             subst c31
             have H1 : (if a0_0 = 4 then (if a0_3 = 0 then (if a0_4.toList = ([] : List UInt8) then (qj_.j4 kj22 (a0_2 != 0) a0_0 a0_1 a0_2 a0_3 a0_4 l0_5) else (qj_.j4 kj22 true a0_0 a0_1 a0_2 a0_3 a0_4 l0_5)) else (qj_.j4 kj22 true a0_0 a0_1 a0_2 a0_3 a0_4 l0_5)) else (qj_.j4 kj22 false a0_0 a0_1 a0_2 a0_3 a0_4 l0_5)) = some r := by rw [if_neg (show ¬ (false = true) by decide)] at H; exact H
             clear H
             have H := H1
             clear H1
             have HC32 := qi_.mk H
             clear H
             go_upto_region 10 with (fail)
             go_cut [72] (fun v72 wc => ∃ (kq : Nat) (x72_31 : Bool), v72 = .bool x72_31 ∧ qi_ (qj_.j4 kq x72_31 a0_0 a0_1 a0_2 a0_3 a0_4 l0_5 = some r) ∧ qi_ (kq ≤ kj22) ∧ qi_ (wc.heap[gb254]? = some (.cells #[.int .i64 a0_0, .int .i64 a0_1, .int .i64 a0_2, .int .i64 a0_3, .string a0_4, (.slice A0_5 l0_5.length c0_5)] 43 (0, 0))) ∧ qi_ (Below w.heap.size w wc))
             case first =>
              have H := HC32.out
              clear HC32
              by_cases c33 : a0_0 = 4
              ·rw [if_pos c33] at H
               have c33b0 : (a0_0 == 4) = true := beq_iff_eq.mpr c33
               have c33b1 : (a0_0 != 4) = false := bne_eq_false_iff_eq.mpr c33
               clear c33
               (first | rw [c33b0] | (simp only [i64_w, i32_w]; rw [c33b0]) | skip)
               by_cases c34 : a0_3 = 0
               ·rw [if_pos c34] at H
                have c34b0 : (a0_3 == 0) = true := beq_iff_eq.mpr c34
                have c34b1 : (a0_3 != 0) = false := bne_eq_false_iff_eq.mpr c34
                clear c34
                by_cases c35 : a0_4.toList = ([] : List UInt8)
                ·rw [if_pos c35] at H
                 have c35b0 : (a0_4.toList == ([] : List UInt8)) = true := beq_iff_eq.mpr c35
                 have c35b1 : (a0_4.toList != ([] : List UInt8)) = false := bne_eq_false_iff_eq.mpr c35
                 clear c35
                 have H' := qi_.mk H
                 clear H
                 have hcz36_0 : wc.cell? ⟨gb254, 0, none⟩ = some (.int .i64 a0_0) := (qb_ BK254.out 0).trans rfl
                 have hcz36_1 : wc.cell? ⟨gb254, 1, none⟩ = some (.int .i64 a0_1) := (qb_ BK254.out 1).trans rfl
                 have hcz36_2 : wc.cell? ⟨gb254, 2, none⟩ = some (.int .i64 a0_2) := (qb_ BK254.out 2).trans rfl
                 have hcz36_3 : wc.cell? ⟨gb254, 3, none⟩ = some (.int .i64 a0_3) := (qb_ BK254.out 3).trans rfl
                 have hcz36_4 : wc.cell? ⟨gb254, 4, none⟩ = some (.string a0_4) := (qb_ BK254.out 4).trans rfl
                 have hcz36_5 : wc.cell? ⟨gb254, 5, none⟩ = some (.slice A0_5 l0_5.length c0_5) := (qb_ BK254.out 5).trans rfl
                 have hfz36_0 := qg_ BK254.out 0
                 have hfz36_1 := qg_ BK254.out 1
                 have hfz36_2 := qg_ BK254.out 2
                 have hfz36_3 := qg_ BK254.out 3
                 have hfz36_4 := qg_ BK254.out 4
                 have hfz36_5 := qg_ BK254.out 5
                 go_wp2
                 go_meet
                 case rel => exact ⟨_, ((a0_2 != 0)), (by first | rfl | (simp; done) | (simp [*]; done)), H', ⟨by have := HJ1.out; have := HJ8.out; have := HJ15.out; have := HJ22.out; first | omega | exact Nat.le_refl _⟩, ⟨by (with_reducible repeat (first | refine qd_ ?_ _ | refine qh_ ?_)); exact BK254.out⟩, ⟨by repeat (first | (with_reducible first | exact HB.out | apply qe_ | apply qa_ | apply qc_ | refine qf_ ?_ GE254.out) | exact HB.out)⟩⟩
                ·rw [if_neg c35] at H
                 have c35b0 : (a0_4.toList == ([] : List UInt8)) = false := beq_eq_false_iff_ne.mpr c35
                 have c35b1 : (a0_4.toList != ([] : List UInt8)) = true := bne_iff_ne.mpr c35
                 have H' := qi_.mk H
                 clear H
                 have hcz37_0 : wc.cell? ⟨gb254, 0, none⟩ = some (.int .i64 a0_0) := (qb_ BK254.out 0).trans rfl
                 have hcz37_1 : wc.cell? ⟨gb254, 1, none⟩ = some (.int .i64 a0_1) := (qb_ BK254.out 1).trans rfl
                 have hcz37_2 : wc.cell? ⟨gb254, 2, none⟩ = some (.int .i64 a0_2) := (qb_ BK254.out 2).trans rfl
                 have hcz37_3 : wc.cell? ⟨gb254, 3, none⟩ = some (.int .i64 a0_3) := (qb_ BK254.out 3).trans rfl
                 have hcz37_4 : wc.cell? ⟨gb254, 4, none⟩ = some (.string a0_4) := (qb_ BK254.out 4).trans rfl
                 have hcz37_5 : wc.cell? ⟨gb254, 5, none⟩ = some (.slice A0_5 l0_5.length c0_5) := (qb_ BK254.out 5).trans rfl
                 have hfz37_0 := qg_ BK254.out 0
                 have hfz37_1 := qg_ BK254.out 1
                 have hfz37_2 := qg_ BK254.out 2
                 have hfz37_3 := qg_ BK254.out 3
                 have hfz37_4 := qg_ BK254.out 4
                 have hfz37_5 := qg_ BK254.out 5
                 go_wp2
                 go_meet
                 case rel => exact ⟨_, (true), (by first | rfl | (simp; done) | (simp [*]; done)), H', ⟨by have := HJ1.out; have := HJ8.out; have := HJ15.out; have := HJ22.out; first | omega | exact Nat.le_refl _⟩, ⟨by (with_reducible repeat (first | refine qd_ ?_ _ | refine qh_ ?_)); exact BK254.out⟩, ⟨by repeat (first | (with_reducible first | exact HB.out | apply qe_ | apply qa_ | apply qc_ | refine qf_ ?_ GE254.out) | exact HB.out)⟩⟩
               ·rw [if_neg c34] at H
                have c34b0 : (a0_3 == 0) = false := beq_eq_false_iff_ne.mpr c34
                have c34b1 : (a0_3 != 0) = true := bne_iff_ne.mpr c34
                have H' := qi_.mk H
                clear H
                have hcz38_0 : wc.cell? ⟨gb254, 0, none⟩ = some (.int .i64 a0_0) := (qb_ BK254.out 0).trans rfl
                have hcz38_1 : wc.cell? ⟨gb254, 1, none⟩ = some (.int .i64 a0_1) := (qb_ BK254.out 1).trans rfl
                have hcz38_2 : wc.cell? ⟨gb254, 2, none⟩ = some (.int .i64 a0_2) := (qb_ BK254.out 2).trans rfl
                have hcz38_3 : wc.cell? ⟨gb254, 3, none⟩ = some (.int .i64 a0_3) := (qb_ BK254.out 3).trans rfl
                have hcz38_4 : wc.cell? ⟨gb254, 4, none⟩ = some (.string a0_4) := (qb_ BK254.out 4).trans rfl
                have hcz38_5 : wc.cell? ⟨gb254, 5, none⟩ = some (.slice A0_5 l0_5.length c0_5) := (qb_ BK254.out 5).trans rfl
                have hfz38_0 := qg_ BK254.out 0
                have hfz38_1 := qg_ BK254.out 1
                have hfz38_2 := qg_ BK254.out 2
                have hfz38_3 := qg_ BK254.out 3
                have hfz38_4 := qg_ BK254.out 4
                have hfz38_5 := qg_ BK254.out 5
                go_wp2
                go_meet
                case rel => exact ⟨_, (true), (by first | rfl | (simp; done) | (simp [*]; done)), H', ⟨by have := HJ1.out; have := HJ8.out; have := HJ15.out; have := HJ22.out; first | omega | exact Nat.le_refl _⟩, ⟨by (with_reducible repeat (first | refine qd_ ?_ _ | refine qh_ ?_)); exact BK254.out⟩, ⟨by repeat (first | (with_reducible first | exact HB.out | apply qe_ | apply qa_ | apply qc_ | refine qf_ ?_ GE254.out) | exact HB.out)⟩⟩
              ·rw [if_neg c33] at H
               have c33b0 : (a0_0 == 4) = false := beq_eq_false_iff_ne.mpr c33
               have c33b1 : (a0_0 != 4) = true := bne_iff_ne.mpr c33
               (first | rw [c33b0] | (simp only [i64_w, i32_w]; rw [c33b0]) | skip)
               have H' := qi_.mk H
               clear H
               have hcz39_0 : wc.cell? ⟨gb254, 0, none⟩ = some (.int .i64 a0_0) := (qb_ BK254.out 0).trans rfl
               have hcz39_1 : wc.cell? ⟨gb254, 1, none⟩ = some (.int .i64 a0_1) := (qb_ BK254.out 1).trans rfl
               have hcz39_2 : wc.cell? ⟨gb254, 2, none⟩ = some (.int .i64 a0_2) := (qb_ BK254.out 2).trans rfl
               have hcz39_3 : wc.cell? ⟨gb254, 3, none⟩ = some (.int .i64 a0_3) := (qb_ BK254.out 3).trans rfl
               have hcz39_4 : wc.cell? ⟨gb254, 4, none⟩ = some (.string a0_4) := (qb_ BK254.out 4).trans rfl
               have hcz39_5 : wc.cell? ⟨gb254, 5, none⟩ = some (.slice A0_5 l0_5.length c0_5) := (qb_ BK254.out 5).trans rfl
               have hfz39_0 := qg_ BK254.out 0
               have hfz39_1 := qg_ BK254.out 1
               have hfz39_2 := qg_ BK254.out 2
               have hfz39_3 := qg_ BK254.out 3
               have hfz39_4 := qg_ BK254.out 4
               have hfz39_5 := qg_ BK254.out 5
               go_wp2
               go_meet
               case rel => exact ⟨_, (false), (by first | rfl | (simp; done) | (simp [*]; done)), H', ⟨by have := HJ1.out; have := HJ8.out; have := HJ15.out; have := HJ22.out; first | omega | exact Nat.le_refl _⟩, ⟨by (with_reducible repeat (first | refine qd_ ?_ _ | refine qh_ ?_)); exact BK254.out⟩, ⟨by repeat (first | (with_reducible first | exact HB.out | apply qe_ | apply qa_ | apply qc_ | refine qf_ ?_ GE254.out) | exact HB.out)⟩⟩
             case rest =>
              clear HC32
              try clear c1
              try clear c2
              try clear p2
              try clear c3
              try clear c5
              try clear c5b0
              try clear c8
              try clear c10
              try clear c10b0
              try clear c10b1
              try clear c11
              try clear c11b0
              try clear c11b1
              try clear c15
              try clear c17
              try clear c17b0
              try clear c17b1
              try clear c18
              try clear c18b0
              try clear c18b1
              try clear c21
              try clear c22
              try clear c24
              try clear c24b0
              try clear c24b1
              try clear c25
              try clear c25b0
              try clear c25b1
              try clear c26
              try clear c26b0
              try clear c26b1
              try clear c31
              try clear c33
              try clear c33b0
              try clear c33b1
              try clear c34
              try clear c34b0
              try clear c34b1
              try clear c35
              try clear c35b0
              try clear c35b1
              try clear hcz12_0
              try clear hcz12_1
              try clear hcz12_2
              try clear hcz12_3
              try clear hcz12_4
              try clear hcz12_5
              try clear hcz13_0
              try clear hcz13_1
              try clear hcz13_2
              try clear hcz13_3
              try clear hcz13_4
              try clear hcz13_5
              try clear hcz14_0
              try clear hcz14_1
              try clear hcz14_2
              try clear hcz14_3
              try clear hcz14_4
              try clear hcz14_5
              try clear hcz19_0
              try clear hcz19_1
              try clear hcz19_2
              try clear hcz19_3
              try clear hcz19_4
              try clear hcz19_5
              try clear hcz20_0
              try clear hcz20_1
              try clear hcz20_2
              try clear hcz20_3
              try clear hcz20_4
              try clear hcz20_5
              try clear hcz21_0
              try clear hcz21_1
              try clear hcz21_2
              try clear hcz21_3
              try clear hcz21_4
              try clear hcz21_5
              try clear hcz27_0
              try clear hcz27_1
              try clear hcz27_2
              try clear hcz27_3
              try clear hcz27_4
              try clear hcz27_5
              try clear hcz28_0
              try clear hcz28_1
              try clear hcz28_2
              try clear hcz28_3
              try clear hcz28_4
              try clear hcz28_5
              try clear hcz29_0
              try clear hcz29_1
              try clear hcz29_2
              try clear hcz29_3
              try clear hcz29_4
              try clear hcz29_5
              try clear hcz30_0
              try clear hcz30_1
              try clear hcz30_2
              try clear hcz30_3
              try clear hcz30_4
              try clear hcz30_5
              try clear hcz36_0
              try clear hcz36_1
              try clear hcz36_2
              try clear hcz36_3
              try clear hcz36_4
              try clear hcz36_5
              try clear hcz37_0
              try clear hcz37_1
              try clear hcz37_2
              try clear hcz37_3
              try clear hcz37_4
              try clear hcz37_5
              try clear hcz38_0
              try clear hcz38_1
              try clear hcz38_2
              try clear hcz38_3
              try clear hcz38_4
              try clear hcz38_5
              try clear hcz39_0
              try clear hcz39_1
              try clear hcz39_2
              try clear hcz39_3
              try clear hcz39_4
              try clear hcz39_5
              try clear hcz4_0
              try clear hcz4_1
              try clear hcz4_2
              try clear hcz4_3
              try clear hcz4_4
              try clear hcz4_5
              try clear hcz6_0
              try clear hcz6_1
              try clear hcz6_2
              try clear hcz6_3
              try clear hcz6_4
              try clear hcz6_5
              try clear hcz7_0
              try clear hcz7_1
              try clear hcz7_2
              try clear hcz7_3
              try clear hcz7_4
              try clear hcz7_5
              try clear hfz12_0
              try clear hfz12_1
              try clear hfz12_2
              try clear hfz12_3
              try clear hfz12_4
              try clear hfz12_5
              try clear hfz13_0
              try clear hfz13_1
              try clear hfz13_2
              try clear hfz13_3
              try clear hfz13_4
              try clear hfz13_5
              try clear hfz14_0
              try clear hfz14_1
              try clear hfz14_2
              try clear hfz14_3
              try clear hfz14_4
              try clear hfz14_5
              try clear hfz19_0
              try clear hfz19_1
              try clear hfz19_2
              try clear hfz19_3
              try clear hfz19_4
              try clear hfz19_5
              try clear hfz20_0
              try clear hfz20_1
              try clear hfz20_2
              try clear hfz20_3
              try clear hfz20_4
              try clear hfz20_5
              try clear hfz21_0
              try clear hfz21_1
              try clear hfz21_2
              try clear hfz21_3
              try clear hfz21_4
              try clear hfz21_5
              try clear hfz27_0
              try clear hfz27_1
              try clear hfz27_2
              try clear hfz27_3
              try clear hfz27_4
              try clear hfz27_5
              try clear hfz28_0
              try clear hfz28_1
              try clear hfz28_2
              try clear hfz28_3
              try clear hfz28_4
              try clear hfz28_5
              try clear hfz29_0
              try clear hfz29_1
              try clear hfz29_2
              try clear hfz29_3
              try clear hfz29_4
              try clear hfz29_5
              try clear hfz30_0
              try clear hfz30_1
              try clear hfz30_2
              try clear hfz30_3
              try clear hfz30_4
              try clear hfz30_5
              try clear hfz36_0
              try clear hfz36_1
              try clear hfz36_2
              try clear hfz36_3
              try clear hfz36_4
              try clear hfz36_5
              try clear hfz37_0
              try clear hfz37_1
              try clear hfz37_2
              try clear hfz37_3
              try clear hfz37_4
              try clear hfz37_5
              try clear hfz38_0
              try clear hfz38_1
              try clear hfz38_2
              try clear hfz38_3
              try clear hfz38_4
              try clear hfz38_5
              try clear hfz39_0
              try clear hfz39_1
              try clear hfz39_2
              try clear hfz39_3
              try clear hfz39_4
              try clear hfz39_5
              try clear hfz4_0
              try clear hfz4_1
              try clear hfz4_2
              try clear hfz4_3
              try clear hfz4_4
              try clear hfz4_5
              try clear hfz6_0
              try clear hfz6_1
              try clear hfz6_2
              try clear hfz6_3
              try clear hfz6_4
              try clear hfz6_5
              try clear hfz7_0
              try clear hfz7_1
              try clear hfz7_2
              try clear hfz7_3
              try clear hfz7_4
              try clear hfz7_5
              try clear p2
              obtain ⟨kq, x72_31, rfl, HA, HJ31, BK254, HB⟩ := hcut
              cases kq with
              | zero => exact absurd HA.out (by simp [qj_.j4])
              | succ kj31 =>
               have H := HA.out
               clear HA
               simp only [qj_.j4] at H
               by_cases c40 : x72_31 = true
               ·subst c40
                have H1 : (some 5) = some r := by rw [if_pos rfl] at H; exact H
                clear H
                have H := H1
                clear H1
                obtain rfl := Option.some.inj H
                go_wp2
                go_ret
                exact ⟨by first | rfl | (simp [*] <;> rfl), by repeat (first | (with_reducible first | exact HB.out | apply qe_ | apply qa_ | apply qc_ | refine qf_ ?_ GE254.out) | exact HB.out)⟩
               ·replace c40 := Bool.eq_false_iff.mpr c40
                subst c40
                have H1 : (if a0_1 < 0 then (qj_.j5 kj31 true a0_0 a0_1 a0_2 a0_3 a0_4 l0_5) else (qj_.j5 kj31 (decide (a0_1 > 7)) a0_0 a0_1 a0_2 a0_3 a0_4 l0_5)) = some r := by rw [if_neg (show ¬ (false = true) by decide)] at H; exact H
                clear H
                have H := H1
                clear H1
                have HC41 := qi_.mk H
                clear H
                go_upto_region 12 with (fail)
                go_cut [80] (fun v80 wc => ∃ (kq : Nat) (x80_40 : Bool), v80 = .bool x80_40 ∧ qi_ (qj_.j5 kq x80_40 a0_0 a0_1 a0_2 a0_3 a0_4 l0_5 = some r) ∧ qi_ (kq ≤ kj31) ∧ qi_ (wc.heap[gb254]? = some (.cells #[.int .i64 a0_0, .int .i64 a0_1, .int .i64 a0_2, .int .i64 a0_3, .string a0_4, (.slice A0_5 l0_5.length c0_5)] 43 (0, 0))) ∧ qi_ (Below w.heap.size w wc))
                case first =>
                 have H := HC41.out
                 clear HC41
                 by_cases c42 : a0_1 < 0
                 ·rw [if_pos c42] at H
                  have c42b0 : decide (a0_1 < 0) = true := decide_eq_true c42
                  clear c42
                  (first | rw [c42b0] | (simp only [i64_w, i32_w]; rw [c42b0]) | skip)
                  have H' := qi_.mk H
                  clear H
                  have hcz43_0 : wc.cell? ⟨gb254, 0, none⟩ = some (.int .i64 a0_0) := (qb_ BK254.out 0).trans rfl
                  have hcz43_1 : wc.cell? ⟨gb254, 1, none⟩ = some (.int .i64 a0_1) := (qb_ BK254.out 1).trans rfl
                  have hcz43_2 : wc.cell? ⟨gb254, 2, none⟩ = some (.int .i64 a0_2) := (qb_ BK254.out 2).trans rfl
                  have hcz43_3 : wc.cell? ⟨gb254, 3, none⟩ = some (.int .i64 a0_3) := (qb_ BK254.out 3).trans rfl
                  have hcz43_4 : wc.cell? ⟨gb254, 4, none⟩ = some (.string a0_4) := (qb_ BK254.out 4).trans rfl
                  have hcz43_5 : wc.cell? ⟨gb254, 5, none⟩ = some (.slice A0_5 l0_5.length c0_5) := (qb_ BK254.out 5).trans rfl
                  have hfz43_0 := qg_ BK254.out 0
                  have hfz43_1 := qg_ BK254.out 1
                  have hfz43_2 := qg_ BK254.out 2
                  have hfz43_3 := qg_ BK254.out 3
                  have hfz43_4 := qg_ BK254.out 4
                  have hfz43_5 := qg_ BK254.out 5
                  go_wp2
                  go_meet
                  case rel => exact ⟨_, (true), (by first | rfl | (simp; done) | (simp [*]; done)), H', ⟨by have := HJ1.out; have := HJ8.out; have := HJ15.out; have := HJ22.out; have := HJ31.out; first | omega | exact Nat.le_refl _⟩, ⟨by (with_reducible repeat (first | refine qd_ ?_ _ | refine qh_ ?_)); exact BK254.out⟩, ⟨by repeat (first | (with_reducible first | exact HB.out | apply qe_ | apply qa_ | apply qc_ | refine qf_ ?_ GE254.out) | exact HB.out)⟩⟩
                 ·rw [if_neg c42] at H
                  have c42b0 : decide (a0_1 < 0) = false := decide_eq_false c42
                  clear c42
                  (first | rw [c42b0] | (simp only [i64_w, i32_w]; rw [c42b0]) | skip)
                  have H' := qi_.mk H
                  clear H
                  have hcz44_0 : wc.cell? ⟨gb254, 0, none⟩ = some (.int .i64 a0_0) := (qb_ BK254.out 0).trans rfl
                  have hcz44_1 : wc.cell? ⟨gb254, 1, none⟩ = some (.int .i64 a0_1) := (qb_ BK254.out 1).trans rfl
                  have hcz44_2 : wc.cell? ⟨gb254, 2, none⟩ = some (.int .i64 a0_2) := (qb_ BK254.out 2).trans rfl
                  have hcz44_3 : wc.cell? ⟨gb254, 3, none⟩ = some (.int .i64 a0_3) := (qb_ BK254.out 3).trans rfl
                  have hcz44_4 : wc.cell? ⟨gb254, 4, none⟩ = some (.string a0_4) := (qb_ BK254.out 4).trans rfl
                  have hcz44_5 : wc.cell? ⟨gb254, 5, none⟩ = some (.slice A0_5 l0_5.length c0_5) := (qb_ BK254.out 5).trans rfl
                  have hfz44_0 := qg_ BK254.out 0
                  have hfz44_1 := qg_ BK254.out 1
                  have hfz44_2 := qg_ BK254.out 2
                  have hfz44_3 := qg_ BK254.out 3
                  have hfz44_4 := qg_ BK254.out 4
                  have hfz44_5 := qg_ BK254.out 5
                  go_wp2
                  go_meet
                  case rel => exact ⟨_, (decide (a0_1 > 7)), (by first | rfl | (simp; done) | (simp [*]; done)), H', ⟨by have := HJ1.out; have := HJ8.out; have := HJ15.out; have := HJ22.out; have := HJ31.out; first | omega | exact Nat.le_refl _⟩, ⟨by (with_reducible repeat (first | refine qd_ ?_ _ | refine qh_ ?_)); exact BK254.out⟩, ⟨by repeat (first | (with_reducible first | exact HB.out | apply qe_ | apply qa_ | apply qc_ | refine qf_ ?_ GE254.out) | exact HB.out)⟩⟩
                case rest =>
                 clear HC41
                 try clear c1
                 try clear c2
                 try clear p2
                 try clear c3
                 try clear c4
                 try clear c5
                 try clear c5b0
                 try clear c8
                 try clear c10
                 try clear c10b0
                 try clear c10b1
                 try clear c11
                 try clear c11b0
                 try clear c11b1
                 try clear c15
                 try clear c17
                 try clear c17b0
                 try clear c17b1
                 try clear c18
                 try clear c18b0
                 try clear c18b1
                 try clear c21
                 try clear c22
                 try clear c24
                 try clear c24b0
                 try clear c24b1
                 try clear c25
                 try clear c25b0
                 try clear c25b1
                 try clear c26
                 try clear c26b0
                 try clear c26b1
                 try clear c31
                 try clear c33
                 try clear c33b0
                 try clear c33b1
                 try clear c34
                 try clear c34b0
                 try clear c34b1
                 try clear c35
                 try clear c35b0
                 try clear c35b1
                 try clear c40
                 try clear c42
                 try clear c42b0
                 try clear hcz12_0
                 try clear hcz12_1
                 try clear hcz12_2
                 try clear hcz12_3
                 try clear hcz12_4
                 try clear hcz12_5
                 try clear hcz13_0
                 try clear hcz13_1
                 try clear hcz13_2
                 try clear hcz13_3
                 try clear hcz13_4
                 try clear hcz13_5
                 try clear hcz14_0
                 try clear hcz14_1
                 try clear hcz14_2
                 try clear hcz14_3
                 try clear hcz14_4
                 try clear hcz14_5
                 try clear hcz19_0
                 try clear hcz19_1
                 try clear hcz19_2
                 try clear hcz19_3
                 try clear hcz19_4
                 try clear hcz19_5
                 try clear hcz20_0
                 try clear hcz20_1
                 try clear hcz20_2
                 try clear hcz20_3
                 try clear hcz20_4
                 try clear hcz20_5
                 try clear hcz21_0
                 try clear hcz21_1
                 try clear hcz21_2
                 try clear hcz21_3
                 try clear hcz21_4
                 try clear hcz21_5
                 try clear hcz27_0
                 try clear hcz27_1
                 try clear hcz27_2
                 try clear hcz27_3
                 try clear hcz27_4
                 try clear hcz27_5
                 try clear hcz28_0
                 try clear hcz28_1
                 try clear hcz28_2
                 try clear hcz28_3
                 try clear hcz28_4
                 try clear hcz28_5
                 try clear hcz29_0
                 try clear hcz29_1
                 try clear hcz29_2
                 try clear hcz29_3
                 try clear hcz29_4
                 try clear hcz29_5
                 try clear hcz30_0
                 try clear hcz30_1
                 try clear hcz30_2
                 try clear hcz30_3
                 try clear hcz30_4
                 try clear hcz30_5
                 try clear hcz36_0
                 try clear hcz36_1
                 try clear hcz36_2
                 try clear hcz36_3
                 try clear hcz36_4
                 try clear hcz36_5
                 try clear hcz37_0
                 try clear hcz37_1
                 try clear hcz37_2
                 try clear hcz37_3
                 try clear hcz37_4
                 try clear hcz37_5
                 try clear hcz38_0
                 try clear hcz38_1
                 try clear hcz38_2
                 try clear hcz38_3
                 try clear hcz38_4
                 try clear hcz38_5
                 try clear hcz39_0
                 try clear hcz39_1
                 try clear hcz39_2
                 try clear hcz39_3
                 try clear hcz39_4
                 try clear hcz39_5
                 try clear hcz43_0
                 try clear hcz43_1
                 try clear hcz43_2
                 try clear hcz43_3
                 try clear hcz43_4
                 try clear hcz43_5
                 try clear hcz44_0
                 try clear hcz44_1
                 try clear hcz44_2
                 try clear hcz44_3
                 try clear hcz44_4
                 try clear hcz44_5
                 try clear hcz4_0
                 try clear hcz4_1
                 try clear hcz4_2
                 try clear hcz4_3
                 try clear hcz4_4
                 try clear hcz4_5
                 try clear hcz6_0
                 try clear hcz6_1
                 try clear hcz6_2
                 try clear hcz6_3
                 try clear hcz6_4
                 try clear hcz6_5
                 try clear hcz7_0
                 try clear hcz7_1
                 try clear hcz7_2
                 try clear hcz7_3
                 try clear hcz7_4
                 try clear hcz7_5
                 try clear hfz12_0
                 try clear hfz12_1
                 try clear hfz12_2
                 try clear hfz12_3
                 try clear hfz12_4
                 try clear hfz12_5
                 try clear hfz13_0
                 try clear hfz13_1
                 try clear hfz13_2
                 try clear hfz13_3
                 try clear hfz13_4
                 try clear hfz13_5
                 try clear hfz14_0
                 try clear hfz14_1
                 try clear hfz14_2
                 try clear hfz14_3
                 try clear hfz14_4
                 try clear hfz14_5
                 try clear hfz19_0
                 try clear hfz19_1
                 try clear hfz19_2
                 try clear hfz19_3
                 try clear hfz19_4
                 try clear hfz19_5
                 try clear hfz20_0
                 try clear hfz20_1
                 try clear hfz20_2
                 try clear hfz20_3
                 try clear hfz20_4
                 try clear hfz20_5
                 try clear hfz21_0
                 try clear hfz21_1
                 try clear hfz21_2
                 try clear hfz21_3
                 try clear hfz21_4
                 try clear hfz21_5
                 try clear hfz27_0
                 try clear hfz27_1
                 try clear hfz27_2
                 try clear hfz27_3
                 try clear hfz27_4
                 try clear hfz27_5
                 try clear hfz28_0
                 try clear hfz28_1
                 try clear hfz28_2
                 try clear hfz28_3
                 try clear hfz28_4
                 try clear hfz28_5
                 try clear hfz29_0
                 try clear hfz29_1
                 try clear hfz29_2
                 try clear hfz29_3
                 try clear hfz29_4
                 try clear hfz29_5
                 try clear hfz30_0
                 try clear hfz30_1
                 try clear hfz30_2
                 try clear hfz30_3
                 try clear hfz30_4
                 try clear hfz30_5
                 try clear hfz36_0
                 try clear hfz36_1
                 try clear hfz36_2
                 try clear hfz36_3
                 try clear hfz36_4
                 try clear hfz36_5
                 try clear hfz37_0
                 try clear hfz37_1
                 try clear hfz37_2
                 try clear hfz37_3
                 try clear hfz37_4
                 try clear hfz37_5
                 try clear hfz38_0
                 try clear hfz38_1
                 try clear hfz38_2
                 try clear hfz38_3
                 try clear hfz38_4
                 try clear hfz38_5
                 try clear hfz39_0
                 try clear hfz39_1
                 try clear hfz39_2
                 try clear hfz39_3
                 try clear hfz39_4
                 try clear hfz39_5
                 try clear hfz43_0
                 try clear hfz43_1
                 try clear hfz43_2
                 try clear hfz43_3
                 try clear hfz43_4
                 try clear hfz43_5
                 try clear hfz44_0
                 try clear hfz44_1
                 try clear hfz44_2
                 try clear hfz44_3
                 try clear hfz44_4
                 try clear hfz44_5
                 try clear hfz4_0
                 try clear hfz4_1
                 try clear hfz4_2
                 try clear hfz4_3
                 try clear hfz4_4
                 try clear hfz4_5
                 try clear hfz6_0
                 try clear hfz6_1
                 try clear hfz6_2
                 try clear hfz6_3
                 try clear hfz6_4
                 try clear hfz6_5
                 try clear hfz7_0
                 try clear hfz7_1
                 try clear hfz7_2
                 try clear hfz7_3
                 try clear hfz7_4
                 try clear hfz7_5
                 try clear p2
                 obtain ⟨kq, x80_40, rfl, HA, HJ40, BK254, HB⟩ := hcut
                 cases kq with
                 | zero => exact absurd HA.out (by simp [qj_.j5])
                 | succ kj40 =>
                  have H := HA.out
                  clear HA
                  simp only [qj_.j5] at H
                  by_cases c45 : x80_40 = true
                  ·subst c45
                   have H1 : (some 3) = some r := by rw [if_pos rfl] at H; exact H
                   clear H
                   have H := H1
                   clear H1
                   obtain rfl := Option.some.inj H
                   go_wp2
                   go_ret
                   exact ⟨by first | rfl | (simp [*] <;> rfl), by repeat (first | (with_reducible first | exact HB.out | apply qe_ | apply qa_ | apply qc_ | refine qf_ ?_ GE254.out) | exact HB.out)⟩
                  ·replace c45 := Bool.eq_false_iff.mpr c45
                   subst c45
                   have H1 : (if a0_0 < 3 then ((qv_.f kj40 a0_4).bind fun t255 => (some t255)) else (some 0)) = some r := by rw [if_neg (show ¬ (false = true) by decide)] at H; exact H
                   clear H
                   have H := H1
                   clear H1
                   by_cases c46 : a0_0 < 3
                   ·rw [if_pos c46] at H
                    have c46b0 : decide (a0_0 < 3) = true := decide_eq_true c46
                    clear c46
                    replace H := Option.bind_eq_some_iff.mp H
                    obtain ⟨t255, A470, H⟩ := H
                    replace H : (some t255) = some r := H
                    have A47 := qi_.mk A470
                    clear A470
                    obtain rfl := Option.some.inj H
                    have hcz48_0 : wc.cell? ⟨gb254, 0, none⟩ = some (.int .i64 a0_0) := (qb_ BK254.out 0).trans rfl
                    have hcz48_1 : wc.cell? ⟨gb254, 1, none⟩ = some (.int .i64 a0_1) := (qb_ BK254.out 1).trans rfl
                    have hcz48_2 : wc.cell? ⟨gb254, 2, none⟩ = some (.int .i64 a0_2) := (qb_ BK254.out 2).trans rfl
                    have hcz48_3 : wc.cell? ⟨gb254, 3, none⟩ = some (.int .i64 a0_3) := (qb_ BK254.out 3).trans rfl
                    have hcz48_4 : wc.cell? ⟨gb254, 4, none⟩ = some (.string a0_4) := (qb_ BK254.out 4).trans rfl
                    have hcz48_5 : wc.cell? ⟨gb254, 5, none⟩ = some (.slice A0_5 l0_5.length c0_5) := (qb_ BK254.out 5).trans rfl
                    have hfz48_0 := qg_ BK254.out 0
                    have hfz48_1 := qg_ BK254.out 1
                    have hfz48_2 := qg_ BK254.out 2
                    have hfz48_3 := qg_ BK254.out 3
                    have hfz48_4 := qg_ BK254.out 4
                    have hfz48_5 := qg_ BK254.out 5
                    go_wp2_with (first | ((with_reducible refine q2_ (f := 30) rfl ?_); refine goesL_ (some 86) rfl rfl Try.func30 (by kernel_rfl) rfl #[.string a0_4] rfl (by simp only [List.map_toArray]; first | done | rfl) ?_; (with_reducible refine (qv_.calls kj40 a0_4 t255 _ A47.out).mono ?_); rintro e w' ⟨rfl, ⟨nd, rfl⟩⟩; refine ⟨_, rfl, ?_⟩))
                    go_ret
                    exact ⟨by first | rfl | (simp [*] <;> rfl), by repeat (first | (with_reducible first | exact HB.out | apply qe_ | apply qa_ | apply qc_ | refine qf_ ?_ GE254.out) | exact HB.out)⟩
                   ·rw [if_neg c46] at H
                    have c46b0 : decide (a0_0 < 3) = false := decide_eq_false c46
                    clear c46
                    obtain rfl := Option.some.inj H
                    have hcz49_0 : wc.cell? ⟨gb254, 0, none⟩ = some (.int .i64 a0_0) := (qb_ BK254.out 0).trans rfl
                    have hcz49_1 : wc.cell? ⟨gb254, 1, none⟩ = some (.int .i64 a0_1) := (qb_ BK254.out 1).trans rfl
                    have hcz49_2 : wc.cell? ⟨gb254, 2, none⟩ = some (.int .i64 a0_2) := (qb_ BK254.out 2).trans rfl
                    have hcz49_3 : wc.cell? ⟨gb254, 3, none⟩ = some (.int .i64 a0_3) := (qb_ BK254.out 3).trans rfl
                    have hcz49_4 : wc.cell? ⟨gb254, 4, none⟩ = some (.string a0_4) := (qb_ BK254.out 4).trans rfl
                    have hcz49_5 : wc.cell? ⟨gb254, 5, none⟩ = some (.slice A0_5 l0_5.length c0_5) := (qb_ BK254.out 5).trans rfl
                    have hfz49_0 := qg_ BK254.out 0
                    have hfz49_1 := qg_ BK254.out 1
                    have hfz49_2 := qg_ BK254.out 2
                    have hfz49_3 := qg_ BK254.out 3
                    have hfz49_4 := qg_ BK254.out 4
                    have hfz49_5 := qg_ BK254.out 5
                    go_wp2
                    go_ret
                    exact ⟨by first | rfl | (simp [*] <;> rfl), by repeat (first | (with_reducible first | exact HB.out | apply qe_ | apply qa_ | apply qc_ | refine qf_ ?_ GE254.out) | exact HB.out)⟩

end Go.Proofs.Ytjpdcnaealdbjaa.PTh
