/- Texts of this repo, joined: Ta, Tb, Tc, Td. -/
import Derived.Test.YtjpdcnaealdbjaaPThx15
import Derived.Laws.CopyOwn
import Derived.Test.YtjpdcnaealdbjaaPThx21
import Derived.Test.YtjpdcnaealdbjaaPThx22
import Derived.Test.YtjpdcnaealdbjaaPThx14
import Derived.Test.YtjpdcnaealdbjaaPThx12
import Derived.Test.YtjpdcnaealdbjaaPThx13
namespace Go.Proofs.Ytjpdcnaealdbjaa.PTh
open Go.RowKit Go.Proofs.YtjpdcnaealdbjaaW.PrintWords Go.Proofs.YtjpdcnaealdbjaaW.PrintLast Go.Proofs.YtjpdcnaealdbjaaW.PrintMore
attribute [local go_sem] max2_int min2_int max_two min_two max_three min_three max_four min_four
attribute [local go_sem] World.cell?_alloc_some
set_option linter.unusedVariables false
set_option linter.unusedSimpArgs false


/-- The review at block g: its text and its threads, blocks of B and above. -/
structure Rv (w : World) (B g : Nat) (vt vh : Value) (text : List ByteArray) (ths : List S34) : Prop where
 blk : w.heap[g]? = some (.cells #[vt, vh] 49 (0, 0))
 ge : B ≤ g
 tx : Kd.R Kd.string 9 w B (fun _ => True) vt text
 th : Kd.R k34 34 w B (fun _ => True) vh ths
 le : ths.length ≤ 12
theorem Rv.size {w : World} {B g : Nat} {vt vh : Value} {text : List ByteArray} {ths : List S34} (h : Rv w B g vt vh text ths) : B ≤ w.heap.size := Nat.le_trans h.ge (Nat.le_of_lt (blk_lt h.blk))
theorem Rv.below {w w1 : World} {B g : Nat} {vt vh : Value} {text : List ByteArray} {ths : List S34} (h : Rv w B g vt vh text ths) (hb : Below w.heap.size w w1) : Rv w1 B g vt vh text ths := ⟨qn_ h.blk hb, h.ge, Kd.R_below h.tx hb, Kd.R_below h.th hb, h.le⟩
theorem Rv.drewN {w : World} {B g : Nat} {vt vh : Value} {text : List ByteArray} {ths : List S34} (h : Rv w B g vt vh text ths) (m : Nat) : Rv (w.drewN m) B g vt vh text ths := ⟨qd_ h.blk m, h.ge, Kd.qo_ h.tx m, Kd.qo_ h.th m, h.le⟩
theorem Rv.drew {w : World} {B g : Nat} {vt vh : Value} {text : List ByteArray} {ths : List S34} (h : Rv w B g vt vh text ths) : Rv w.drew B g vt vh text ths := ⟨qh_ h.blk, h.ge, Kd.qp_ h.tx, Kd.qp_ h.th, h.le⟩
theorem below_low {B : Nat} {w W w2 : World} (h : Below B w W) (hB : B ≤ W.heap.size) (k : Below W.heap.size W w2) : Below B w w2 := below_then h hB k
theorem Rv.texts {w : World} {B g : Nat} {vt vh : Value} {text : List ByteArray} {ths : List S34} (h : Rv w B g vt vh text ths) : ∃ A c, vt = .slice A text.length c := Kd.R_slice h.tx
theorem Rv.threads {w : World} {B g : Nat} {vt vh : Value} {text : List ByteArray} {ths : List S34} (h : Rv w B g vt vh text ths) : ∃ A c, vh = .slice A ths.length c := Kd.R_slice h.th

theorem infoT34 : (Try.prog.info? 34).map (fun i => (i.zero, i.size, i.bytes)) = some (some (.agg #[.int .i64 0, .int .i64 0, .int .i64 0, .bool false, .bool false]), 5, 32) := by kernel_rfl
theorem Rv.put_th {w w1 : World} {B g : Nat} {vt vh v1 : Value} {text : List ByteArray} {ths ths1 : List S34} (h : Rv w B g vt vh text ths) (hg : w.grownBy w1 vh.ownBlock) (ho : Kd.R k34 34 w1 B (fun _ => True) v1 ths1) (hl : ths1.length ≤ 12) : Rv (w1.setCell ⟨g, 1, none⟩ v1) B g vt v1 text ths1 := by
 have hb := blk_grown h.blk hg (Kd.R_ne h.th h.blk (by decide))
 exact ⟨q6_ hb 1 v1 rfl, h.ge, Kd.R_set (Kd.R_over h.tx h.th (by decide) hg) hb (by decide) _ _, Kd.R_set ho hb (by decide) _ _, hl⟩

def rvOpen (k : Nat) (text : List ByteArray) (ths : List S34) (us ln : Int) (tx : ByteArray) : Option (List S34 × Int) :=
 (threads_textCode.f k tx).bind fun c => if c = 0 then (if ln < 0 then some (ths, 3) else (if (text.length : Int) ≤ ln then some (ths, 3) else (if (12 : Int) ≤ (ths.length : Int) then some (ths, 14) else some (ths ++ [⟨us, ln, 1, false, false⟩], 0)))) else some (ths, c)
theorem rvOpen.mono : ∀ text ths us ln tx k, LeO (rvOpen k text ths us ln tx) (rvOpen (k + 1) text ths us ln tx) := by
 intro text ths us ln tx k
 unfold rvOpen
 exact LeO.bind (threads_textCode.mono _ _) (fun _ => LeO.refl _)
set_option maxHeartbeats 8000000 in
set_option maxRecDepth 100000 in
theorem rvOpen.calls (k : Nat) (B g : Nat) (vt vh : Value) (text : List ByteArray) (ths ths' : List S34) (e0 e1 e2 e3 : Int) (e4 : ByteArray) (A5 : Option Addr) (n5 c5 : Nat) (c' : Int) (w : World) (hrv : Rv w B g vt vh text ths) (h : rvOpen k text ths e1 e3 e4 = some (ths', c')) :
  Calls Try.prog 26 #[.pointer (some ⟨g, 0, none⟩), .agg #[.int .i64 e0, .int .i64 e1, .int .i64 e2, .int .i64 e3, .string e4, .slice A5 n5 c5]] w fun e w' => ∃ vh' : Value, e = .returned (.int .i64 c') ∧ Rv w' B g vt vh' text ths' ∧ Below B w w' := by
 have hu43 := Try.underlying43
 have hu49 := Try.underlying49
 have RV := qi_.mk hrv
 have HB := qi_.mk (Below.refl B w)
 have xg0 := (qb_ hrv.blk 0).trans rfl
 have xg1 := (qb_ hrv.blk 1).trans rfl
 obtain ⟨At, ct, rfl⟩ := hrv.texts
 obtain ⟨Ah, ch, rfl⟩ := hrv.threads
 clear hrv
 unfold rvOpen at h
 obtain ⟨c, hc, H⟩ := Option.bind_eq_some_iff.mp h
 clear h
 have HTC := qi_.mk hc
 clear hc
 by_cases q1 : c = 0
 ·rw [if_pos q1] at H
  have q1a : (c == 0) = true := beq_iff_eq.mpr q1
  have q1b : (c != 0) = false := bne_eq_false_iff_eq.mpr q1
  by_cases q2 : e3 < 0
  ·rw [if_pos q2] at H
   have q2a : decide (e3 < 0) = true := decide_eq_true q2
   simp only [Option.some.injEq, Prod.mk.injEq] at H
   obtain ⟨rfl, rfl⟩ := H
   go_enter Try.func26, Try.ntmps26
   go_wp2_with (first | ((with_reducible refine gate_dst (N := 3) rfl ?_); refine q1_ ?hg (N := 3) ?hd (cs := #[.int .i64 e0, .int .i64 e1, .int .i64 e2, .int .i64 e3, .string e4, .slice A5 n5 c5]) (t := 43) ?hr ?_; (case hd => rfl); (case hg => rfl); (case hr => first | (go_simp; done) | (go_simp; rfl)); intro g3 hg w3 hbox hb; have n0_ := qi_.mk (below_low HB.out (RV.out.size) hb); have n1_ := qi_.mk (RV.out.below hb); have BK3 := qi_.mk hbox; have GE3 : qi_ (B ≤ g3) := qi_.mk (by rw [hg]; exact RV.out.size); clear HB RV; have HB := n0_; have RV := n1_; clear n0_ n1_ hb hbox hg; (try clear xg0 xg1 xe0 xe1 xe2 xe3 xe4 xe5); have xg0 := (qb_ RV.out.blk 0).trans rfl; have xg1 := (qb_ RV.out.blk 1).trans rfl; have xe0 := (qb_ BK3.out 0).trans rfl; have xe1 := (qb_ BK3.out 1).trans rfl; have xe2 := (qb_ BK3.out 2).trans rfl; have xe3 := (qb_ BK3.out 3).trans rfl; have xe4 := (qb_ BK3.out 4).trans rfl; have xe5 := (qb_ BK3.out 5).trans rfl) | ((with_reducible refine q2_ (f := 28) rfl ?_); refine goesL_ (some 8) rfl rfl Try.func28 (by kernel_rfl) rfl #[.string e4] rfl (by simp only [List.map_toArray]; first | done | rfl) ?_; refine (threads_textCode.calls k e4 c _ HTC.out).mono ?_; rintro e w5 ⟨rfl, hb⟩; refine ⟨_, rfl, ?_⟩; have n0_ := qi_.mk (below_low HB.out (RV.out.size) hb); have n1_ := qi_.mk (RV.out.below hb); have n2_ := qi_.mk (qn_ BK3.out hb); clear HB RV BK3; have HB := n0_; have RV := n1_; have BK3 := n2_; clear n0_ n1_ n2_ hb; (try clear xg0 xg1 xe0 xe1 xe2 xe3 xe4 xe5); have xg0 := (qb_ RV.out.blk 0).trans rfl; have xg1 := (qb_ RV.out.blk 1).trans rfl; have xe0 := (qb_ BK3.out 0).trans rfl; have xe1 := (qb_ BK3.out 1).trans rfl; have xe2 := (qb_ BK3.out 2).trans rfl; have xe3 := (qb_ BK3.out 3).trans rfl; have xe4 := (qb_ BK3.out 4).trans rfl; have xe5 := (qb_ BK3.out 5).trans rfl) | fail)
   go_quiet (fail)
   go_wp2
   go_ret
   exact ⟨_, by rfl, (by first | exact RV.out | exact RV.out.drewN _ | exact (RV.out.drewN _).drewN _), (by repeat (first | (with_reducible first | exact HB.out | apply qa_ | apply qc_) | exact HB.out))⟩
  ·rw [if_neg q2] at H
   have q2a : decide (e3 < 0) = false := decide_eq_false q2
   by_cases q3 : (text.length : Int) ≤ e3
   ·rw [if_pos q3] at H
    have q3a : decide ((text.length : Int) ≤ e3) = true := decide_eq_true q3
    have q3b : decide (e3 ≥ (text.length : Int)) = true := decide_eq_true q3
    simp only [Option.some.injEq, Prod.mk.injEq] at H
    obtain ⟨rfl, rfl⟩ := H
    go_enter Try.func26, Try.ntmps26
    go_wp2_with (first | ((with_reducible refine gate_dst (N := 3) rfl ?_); refine q1_ ?hg (N := 3) ?hd (cs := #[.int .i64 e0, .int .i64 e1, .int .i64 e2, .int .i64 e3, .string e4, .slice A5 n5 c5]) (t := 43) ?hr ?_; (case hd => rfl); (case hg => rfl); (case hr => first | (go_simp; done) | (go_simp; rfl)); intro g3 hg w3 hbox hb; have n0_ := qi_.mk (below_low HB.out (RV.out.size) hb); have n1_ := qi_.mk (RV.out.below hb); have BK3 := qi_.mk hbox; have GE3 : qi_ (B ≤ g3) := qi_.mk (by rw [hg]; exact RV.out.size); clear HB RV; have HB := n0_; have RV := n1_; clear n0_ n1_ hb hbox hg; (try clear xg0 xg1 xe0 xe1 xe2 xe3 xe4 xe5); have xg0 := (qb_ RV.out.blk 0).trans rfl; have xg1 := (qb_ RV.out.blk 1).trans rfl; have xe0 := (qb_ BK3.out 0).trans rfl; have xe1 := (qb_ BK3.out 1).trans rfl; have xe2 := (qb_ BK3.out 2).trans rfl; have xe3 := (qb_ BK3.out 3).trans rfl; have xe4 := (qb_ BK3.out 4).trans rfl; have xe5 := (qb_ BK3.out 5).trans rfl) | ((with_reducible refine q2_ (f := 28) rfl ?_); refine goesL_ (some 8) rfl rfl Try.func28 (by kernel_rfl) rfl #[.string e4] rfl (by simp only [List.map_toArray]; first | done | rfl) ?_; refine (threads_textCode.calls k e4 c _ HTC.out).mono ?_; rintro e w5 ⟨rfl, hb⟩; refine ⟨_, rfl, ?_⟩; have n0_ := qi_.mk (below_low HB.out (RV.out.size) hb); have n1_ := qi_.mk (RV.out.below hb); have n2_ := qi_.mk (qn_ BK3.out hb); clear HB RV BK3; have HB := n0_; have RV := n1_; have BK3 := n2_; clear n0_ n1_ n2_ hb; (try clear xg0 xg1 xe0 xe1 xe2 xe3 xe4 xe5); have xg0 := (qb_ RV.out.blk 0).trans rfl; have xg1 := (qb_ RV.out.blk 1).trans rfl; have xe0 := (qb_ BK3.out 0).trans rfl; have xe1 := (qb_ BK3.out 1).trans rfl; have xe2 := (qb_ BK3.out 2).trans rfl; have xe3 := (qb_ BK3.out 3).trans rfl; have xe4 := (qb_ BK3.out 4).trans rfl; have xe5 := (qb_ BK3.out 5).trans rfl) | fail)
    go_quiet (fail)
    go_wp2
    go_ret
    exact ⟨_, by rfl, (by first | exact RV.out | exact RV.out.drewN _ | exact (RV.out.drewN _).drewN _), (by repeat (first | (with_reducible first | exact HB.out | apply qa_ | apply qc_) | exact HB.out))⟩
   ·rw [if_neg q3] at H
    have q3a : decide ((text.length : Int) ≤ e3) = false := decide_eq_false q3
    by_cases q4 : (12 : Int) ≤ (ths.length : Int)
    ·rw [if_pos q4] at H
     have q4a : decide ((12 : Int) ≤ (ths.length : Int)) = true := decide_eq_true q4
     simp only [Option.some.injEq, Prod.mk.injEq] at H
     obtain ⟨rfl, rfl⟩ := H
     go_enter Try.func26, Try.ntmps26
     go_wp2_with (first | ((with_reducible refine gate_dst (N := 3) rfl ?_); refine q1_ ?hg (N := 3) ?hd (cs := #[.int .i64 e0, .int .i64 e1, .int .i64 e2, .int .i64 e3, .string e4, .slice A5 n5 c5]) (t := 43) ?hr ?_; (case hd => rfl); (case hg => rfl); (case hr => first | (go_simp; done) | (go_simp; rfl)); intro g3 hg w3 hbox hb; have n0_ := qi_.mk (below_low HB.out (RV.out.size) hb); have n1_ := qi_.mk (RV.out.below hb); have BK3 := qi_.mk hbox; have GE3 : qi_ (B ≤ g3) := qi_.mk (by rw [hg]; exact RV.out.size); clear HB RV; have HB := n0_; have RV := n1_; clear n0_ n1_ hb hbox hg; (try clear xg0 xg1 xe0 xe1 xe2 xe3 xe4 xe5); have xg0 := (qb_ RV.out.blk 0).trans rfl; have xg1 := (qb_ RV.out.blk 1).trans rfl; have xe0 := (qb_ BK3.out 0).trans rfl; have xe1 := (qb_ BK3.out 1).trans rfl; have xe2 := (qb_ BK3.out 2).trans rfl; have xe3 := (qb_ BK3.out 3).trans rfl; have xe4 := (qb_ BK3.out 4).trans rfl; have xe5 := (qb_ BK3.out 5).trans rfl) | ((with_reducible refine q2_ (f := 28) rfl ?_); refine goesL_ (some 8) rfl rfl Try.func28 (by kernel_rfl) rfl #[.string e4] rfl (by simp only [List.map_toArray]; first | done | rfl) ?_; refine (threads_textCode.calls k e4 c _ HTC.out).mono ?_; rintro e w5 ⟨rfl, hb⟩; refine ⟨_, rfl, ?_⟩; have n0_ := qi_.mk (below_low HB.out (RV.out.size) hb); have n1_ := qi_.mk (RV.out.below hb); have n2_ := qi_.mk (qn_ BK3.out hb); clear HB RV BK3; have HB := n0_; have RV := n1_; have BK3 := n2_; clear n0_ n1_ n2_ hb; (try clear xg0 xg1 xe0 xe1 xe2 xe3 xe4 xe5); have xg0 := (qb_ RV.out.blk 0).trans rfl; have xg1 := (qb_ RV.out.blk 1).trans rfl; have xe0 := (qb_ BK3.out 0).trans rfl; have xe1 := (qb_ BK3.out 1).trans rfl; have xe2 := (qb_ BK3.out 2).trans rfl; have xe3 := (qb_ BK3.out 3).trans rfl; have xe4 := (qb_ BK3.out 4).trans rfl; have xe5 := (qb_ BK3.out 5).trans rfl) | fail)
     go_quiet (fail)
     go_wp2
     go_ret
     exact ⟨_, by rfl, (by first | exact RV.out | exact RV.out.drewN _ | exact (RV.out.drewN _).drewN _), (by repeat (first | (with_reducible first | exact HB.out | apply qa_ | apply qc_) | exact HB.out))⟩
    ·rw [if_neg q4] at H
     have q4a : decide ((12 : Int) ≤ (ths.length : Int)) = false := decide_eq_false q4
     simp only [Option.some.injEq, Prod.mk.injEq] at H
     obtain ⟨rfl, rfl⟩ := H
     go_enter Try.func26, Try.ntmps26
     go_wp2_with (first | ((with_reducible refine gate_dst (N := 3) rfl ?_); refine q1_ ?hg (N := 3) ?hd (cs := #[.int .i64 e0, .int .i64 e1, .int .i64 e2, .int .i64 e3, .string e4, .slice A5 n5 c5]) (t := 43) ?hr ?_; (case hd => rfl); (case hg => rfl); (case hr => first | (go_simp; done) | (go_simp; rfl)); intro g3 hg w3 hbox hb; have n0_ := qi_.mk (below_low HB.out (RV.out.size) hb); have n1_ := qi_.mk (RV.out.below hb); have BK3 := qi_.mk hbox; have GE3 : qi_ (B ≤ g3) := qi_.mk (by rw [hg]; exact RV.out.size); clear HB RV; have HB := n0_; have RV := n1_; clear n0_ n1_ hb hbox hg; (try clear xg0 xg1 xe0 xe1 xe2 xe3 xe4 xe5); have xg0 := (qb_ RV.out.blk 0).trans rfl; have xg1 := (qb_ RV.out.blk 1).trans rfl; have xe0 := (qb_ BK3.out 0).trans rfl; have xe1 := (qb_ BK3.out 1).trans rfl; have xe2 := (qb_ BK3.out 2).trans rfl; have xe3 := (qb_ BK3.out 3).trans rfl; have xe4 := (qb_ BK3.out 4).trans rfl; have xe5 := (qb_ BK3.out 5).trans rfl) | ((with_reducible refine q2_ (f := 28) rfl ?_); refine goesL_ (some 8) rfl rfl Try.func28 (by kernel_rfl) rfl #[.string e4] rfl (by simp only [List.map_toArray]; first | done | rfl) ?_; refine (threads_textCode.calls k e4 c _ HTC.out).mono ?_; rintro e w5 ⟨rfl, hb⟩; refine ⟨_, rfl, ?_⟩; have n0_ := qi_.mk (below_low HB.out (RV.out.size) hb); have n1_ := qi_.mk (RV.out.below hb); have n2_ := qi_.mk (qn_ BK3.out hb); clear HB RV BK3; have HB := n0_; have RV := n1_; have BK3 := n2_; clear n0_ n1_ n2_ hb; (try clear xg0 xg1 xe0 xe1 xe2 xe3 xe4 xe5); have xg0 := (qb_ RV.out.blk 0).trans rfl; have xg1 := (qb_ RV.out.blk 1).trans rfl; have xe0 := (qb_ BK3.out 0).trans rfl; have xe1 := (qb_ BK3.out 1).trans rfl; have xe2 := (qb_ BK3.out 2).trans rfl; have xe3 := (qb_ BK3.out 3).trans rfl; have xe4 := (qb_ BK3.out 4).trans rfl; have xe5 := (qb_ BK3.out 5).trans rfl) | fail)
     go_quiet (fail)
     go_wp2
     have ng1 : g ≠ w5.heap.size := Nat.ne_of_lt (blk_lt RV.out.blk)
     have ng3 : g3 ≠ w5.heap.size := Nat.ne_of_lt (blk_lt BK3.out)
     have nl1 : g < w5.heap.size := blk_lt RV.out.blk
     have nl3 : g3 < w5.heap.size := blk_lt BK3.out
     go_region_law ((refine Kd.R_append_step k34 (w0 := w) B rfl (.tmp 38) (.tmp 44) 24 34 (.agg #[.int .i64 0, .int .i64 0, .int .i64 0, .bool false, .bool false]) 32 rfl Try.underlying24 infoT34 rfl (by decide) (by omega) (.slice Ah ths.length ch) ths ⟨e1, e3, 1, false, false⟩ [.int .i64 e1, .int .i64 e3, .int .i64 1, .bool false, .bool false] (fun _ => True) (fun _ => False) rfl rfl (k34_mkM _ _ _ _) (fun _ hk => hk.elim) (fun _ _ => trivial) (Kd.qo_ RV.out.th _) (qa_ HB.out _) RV.out.size (by omega) ?_); intro v1 w6 ho hb hg hat; obtain ⟨A1, c1, ev1⟩ := Kd.R_slice ho; obtain rfl : v1 = .slice A1 (ths.length + 1) c1 := (by rw [ev1, List.length_append]; rfl); clear ev1; have BG := qi_.mk (blk_grown (qd_ RV.out.blk _) hg (Kd.R_ne RV.out.th RV.out.blk (by decide))); have HB6 := qi_.mk hb; have HO := qi_.mk ho; have HG := qi_.mk hg; clear hb ho hg hat; have yg1 := (qb_ BG.out 1).trans rfl; have yf1 := qg_ BG.out 1)
     all_goals go_wp2
     all_goals go_ret
     all_goals exact ⟨_, by rfl, Rv.put_th (RV.out.drewN _) HG.out HO.out (by rw [List.length_append, List.length_singleton]; omega), HB6.out.setCell RV.out.ge _⟩
 ·rw [if_neg q1] at H
  have q1a : (c == 0) = false := beq_eq_false_iff_ne.mpr q1
  have q1b : (c != 0) = true := bne_iff_ne.mpr q1
  simp only [Option.some.injEq, Prod.mk.injEq] at H
  obtain ⟨rfl, rfl⟩ := H
  go_enter Try.func26, Try.ntmps26
  go_wp2_with (first | ((with_reducible refine gate_dst (N := 3) rfl ?_); refine q1_ ?hg (N := 3) ?hd (cs := #[.int .i64 e0, .int .i64 e1, .int .i64 e2, .int .i64 e3, .string e4, .slice A5 n5 c5]) (t := 43) ?hr ?_; (case hd => rfl); (case hg => rfl); (case hr => first | (go_simp; done) | (go_simp; rfl)); intro g3 hg w3 hbox hb; have n0_ := qi_.mk (below_low HB.out (RV.out.size) hb); have n1_ := qi_.mk (RV.out.below hb); have BK3 := qi_.mk hbox; have GE3 : qi_ (B ≤ g3) := qi_.mk (by rw [hg]; exact RV.out.size); clear HB RV; have HB := n0_; have RV := n1_; clear n0_ n1_ hb hbox hg; (try clear xg0 xg1 xe0 xe1 xe2 xe3 xe4 xe5); have xg0 := (qb_ RV.out.blk 0).trans rfl; have xg1 := (qb_ RV.out.blk 1).trans rfl; have xe0 := (qb_ BK3.out 0).trans rfl; have xe1 := (qb_ BK3.out 1).trans rfl; have xe2 := (qb_ BK3.out 2).trans rfl; have xe3 := (qb_ BK3.out 3).trans rfl; have xe4 := (qb_ BK3.out 4).trans rfl; have xe5 := (qb_ BK3.out 5).trans rfl) | ((with_reducible refine q2_ (f := 28) rfl ?_); refine goesL_ (some 8) rfl rfl Try.func28 (by kernel_rfl) rfl #[.string e4] rfl (by simp only [List.map_toArray]; first | done | rfl) ?_; refine (threads_textCode.calls k e4 c _ HTC.out).mono ?_; rintro e w5 ⟨rfl, hb⟩; refine ⟨_, rfl, ?_⟩; have n0_ := qi_.mk (below_low HB.out (RV.out.size) hb); have n1_ := qi_.mk (RV.out.below hb); have n2_ := qi_.mk (qn_ BK3.out hb); clear HB RV BK3; have HB := n0_; have RV := n1_; have BK3 := n2_; clear n0_ n1_ n2_ hb; (try clear xg0 xg1 xe0 xe1 xe2 xe3 xe4 xe5); have xg0 := (qb_ RV.out.blk 0).trans rfl; have xg1 := (qb_ RV.out.blk 1).trans rfl; have xe0 := (qb_ BK3.out 0).trans rfl; have xe1 := (qb_ BK3.out 1).trans rfl; have xe2 := (qb_ BK3.out 2).trans rfl; have xe3 := (qb_ BK3.out 3).trans rfl; have xe4 := (qb_ BK3.out 4).trans rfl; have xe5 := (qb_ BK3.out 5).trans rfl) | fail)
  go_ret
  exact ⟨_, by rfl, (by first | exact RV.out | exact RV.out.drewN _ | exact (RV.out.drewN _).drewN _), (by repeat (first | (with_reducible first | exact HB.out | apply qa_ | apply qc_) | exact HB.out))⟩
end Go.Proofs.Ytjpdcnaealdbjaa.PTh
namespace Go.Proofs.Ytjpdcnaealdbjaa.PTh
open Go.RowKit Go.Proofs.YtjpdcnaealdbjaaW.PrintWords Go.Proofs.YtjpdcnaealdbjaaW.PrintLast Go.Proofs.YtjpdcnaealdbjaaW.PrintMore
attribute [local go_sem] max2_int min2_int max_two min_two max_three min_three max_four min_four
attribute [local go_sem] World.cell?_alloc_some
attribute [local go_sem high] eqA26
set_option linter.unusedVariables false
set_option linter.unusedSimpArgs false


def rvMove (k : Nat) (p : List S52) : List S34 → Option (List S34)
 | [] => some []
 | t :: ts => if t.f3 = true then (rvMove k p ts).bind fun r => some (t :: r) else (anchor_Place.f k p t.f1).bind fun x => (rvMove k p ts).bind fun r => some ((if x.2 = true then (⟨t.f0, x.1, t.f2, t.f3, t.f4⟩ : S34) else ⟨t.f0, t.f1, t.f2, true, t.f4⟩) :: r)
theorem rvMove.mono : ∀ p ths k, LeO (rvMove k p ths) (rvMove (k + 1) p ths)
 | p, [], k => LeO.refl _
 | p, t :: ts, k => by
  unfold rvMove
  exact LeO.ite (LeO.bind (rvMove.mono p ts k) (fun _ => LeO.refl _)) (LeO.bind (anchor_Place.mono _ _ _) (fun _ => LeO.bind (rvMove.mono p ts k) (fun _ => LeO.refl _)))
theorem rvMove.len : ∀ (k : Nat) (p : List S52) (ths r : List S34), rvMove k p ths = some r → r.length = ths.length
 | k, p, [], r, h => by simp [rvMove] at h; subst h; rfl
 | k, p, t :: ts, r, h => by
  unfold rvMove at h
  split at h
  ·obtain ⟨q, hq, h⟩ := Option.bind_eq_some_iff.mp h
   cases h
   simp [rvMove.len k p ts q hq]
  ·obtain ⟨x, hx, h⟩ := Option.bind_eq_some_iff.mp h
   obtain ⟨q, hq, h⟩ := Option.bind_eq_some_iff.mp h
   cases h
   simp [rvMove.len k p ts q hq]
def rvPatch (k : Nat) (text : List ByteArray) (ths : List S34) (p : List S52) : Option (List ByteArray × List S34 × Int) :=
 (qy_.f k p text).bind fun a => if (a.2.1 == 0 && (a.2.2 == 0)) = true then (rvMove k p ths).bind fun r => some (a.1, r, 0) else some (text, ths, a.2.1)
theorem rvPatch.mono : ∀ text ths p k, LeO (rvPatch k text ths p) (rvPatch (k + 1) text ths p) := by
 intro text ths p k
 unfold rvPatch
 exact LeO.bind (qy_.mono _ _ _) (fun _ => LeO.ite (LeO.bind (rvMove.mono _ _ _) (fun _ => LeO.refl _)) (LeO.refl _))

theorem below_put {B : Nat} {w W : World} (h : Below B w W) {g : Nat} (hg : B ≤ g) (j : Nat) (u : Value) : Below B w (W.setCell ⟨g, j, none⟩ u) := h.setCell (p := ⟨g, j, none⟩) hg u
theorem Rv.far {w : World} {B g g' t : Nat} {cs : Array Value} {vt vh : Value} {text : List ByteArray} {ths : List S34} (h : Rv w B g vt vh text ths) (hb : w.heap[g']? = some (.cells cs t (0, 0))) (h1 : 49 ≠ t) (h2 : 9 ≠ t) (h3 : 34 ≠ t) (j : Nat) (u : Value) : Rv (w.setCell ⟨g', j, none⟩ u) B g vt vh text ths :=
 ⟨q7_ h.blk (blk_ne h.blk hb h1) u, h.ge, Kd.R_set h.tx hb (fun q hq => by rw [List.mem_singleton.1 hq]; exact h2) j u, Kd.R_set h.th hb (fun q hq => by rw [List.mem_singleton.1 hq]; exact h3) j u, h.le⟩
theorem Rv.put_tx {w : World} {B g : Nat} {vt vh v1 : Value} {text text1 : List ByteArray} {ths : List S34} (h : Rv w B g vt vh text ths) (ho : Kd.R Kd.string 9 w B (fun _ => True) v1 text1) : Rv (w.setCell ⟨g, 0, none⟩ v1) B g v1 vh text1 ths :=
 ⟨q6_ h.blk 0 v1 rfl, h.ge, Kd.R_set ho h.blk (by decide) _ _, Kd.R_set h.th h.blk (by decide) _ _, h.le⟩
def cs34 (t : S34) : List Value := [.int .i64 t.f0, .int .i64 t.f1, .int .i64 t.f2, .bool t.f3, .bool t.f4]
theorem getD_mid (done : List S34) (t : S34) (ts : List S34) : (done ++ t :: ts).getD done.length z34 = t := by simp [List.getD_eq_getElem?_getD]
theorem set_mid (done : List S34) (t t' : S34) (ts : List S34) : (done ++ t :: ts).set done.length t' = done ++ t' :: ts := by simp [List.set_append_right]
/-- Thread number 'done.length': its cells. -/
theorem Rv.elem {w : World} {B g gh n ch : Nat} {vt : Value} {text : List ByteArray} {done ts : List S34} {t : S34} (h : Rv w B g vt (.slice (some ⟨gh, 0, none⟩) n ch) text (done ++ t :: ts)) :
  (∀ (j : Nat) (u : Value), (cs34 t)[j]? = some u → w.cell? ⟨gh, done.length * 5 + j, none⟩ = some u) ∧ (∀ j, w.frozen? ⟨gh, done.length * 5 + j, none⟩ = false) ∧ B ≤ gh := by
 have hn := (Kd.R_reads' h.th).1
 obtain ⟨c, hcl, hM, hcc, hf⟩ := Kd.R_elem h.th z34 (done.length : Int) (by omega) (by rw [hn, List.length_append, List.length_cons]; omega)
 have e5 : ((done.length : Int).toNat) = done.length := Int.toNat_natCast _
 rw [e5] at hM hcc hf
 rw [getD_mid] at hM
 have hc := k34_openM hM
 subst hc
 exact ⟨fun j u hu => hcc j u hu, hf, Kd.R_base h.th gh rfl⟩
theorem Rv.put_elem {w : World} {B g gh n ch : Nat} {vt : Value} {text : List ByteArray} {done ts : List S34} {t : S34} (t' : S34) (i : Nat) (u : Value) (hi : i + 1 ≤ 5) (e : (cs34 t).take i ++ [u] ++ (cs34 t).drop (i + 1) = cs34 t') (h : Rv w B g vt (.slice (some ⟨gh, 0, none⟩) n ch) text (done ++ t :: ts)) :
  Rv (w.setCell ⟨gh, done.length * 5 + i, none⟩ u) B g vt (.slice (some ⟨gh, 0, none⟩) n ch) text (done ++ t' :: ts) := by
 have hn := (Kd.R_reads' h.th).1
 have h1 : ((done.length : Int)) < (n : Int) := by rw [hn, List.length_append, List.length_cons]; omega
 obtain ⟨c, hcl, hM, hcc, hf⟩ := Kd.R_elem h.th z34 (done.length : Int) (by omega) h1
 have e5 : ((done.length : Int).toNat) = done.length := Int.toNat_natCast _
 have hM1 := hM
 rw [e5, getD_mid] at hM1
 have hc := k34_openM hM1
 subst hc
 have hs := Kd.R_seg h.th (done.length : Int) (by omega) h1 (seg := [u]) (j := i) hcl hcc hi (x' := t') (okp := fun _ => False) (by
  change k34.M _ _ _ t' (List.take i (cs34 t) ++ [u] ++ List.drop (i + 1) (cs34 t))
  rw [e]
  exact k34_mkM _ _ _ _) (fun _ hk => hk.elim)
 rw [e5, set_mid] at hs
 have hw : w.setCells gh (done.length * 5 + i) [u] = w.setCell ⟨gh, done.length * 5 + i, none⟩ u := rfl
 have hne : g ≠ gh := by
  obtain ⟨cells, hc⟩ := Kd.R_typed h.th gh rfl
  exact blk_ne h.blk hc (by decide)
 obtain ⟨cells, hc⟩ := Kd.R_typed h.th gh rfl
 exact ⟨q7_ h.blk hne u, h.ge, Kd.R_set h.tx hc (by decide) _ _, hs.1, by have := h.le; simp only [List.length_append, List.length_cons] at this ⊢; exact this⟩
/-- Behind the call of Apply. -/
structure Mid (w wx : World) (B g g3 g6 : Nat) (vt vh v5 : Value) (text tx : List ByteArray) (ths : List S34) (cs : Array Value) (f1 f2 : Int) : Prop where
 hb : Below B w wx
 rv : Rv wx B g vt vh text ths
 b3 : wx.heap[g3]? = some (.cells cs 41 (0, 0))
 b6 : wx.heap[g6]? = some (.cells #[.int .i64 f1, .int .i64 f2] 26 (0, 0))
 ho : Kd.R Kd.string 9 wx B (fun _ => True) v5 tx
theorem Mid.of_alloc {w w5 : World} {B g g3 : Nat} {vt vh v5 : Value} {text tx : List ByteArray} {ths : List S34} {cs : Array Value} {f1 f2 : Int} (hb : Below B w w5) (rv : Rv w5 B g vt vh text ths) (b3 : w5.heap[g3]? = some (.cells cs 41 (0, 0))) (ho : Kd.R Kd.string 9 w5 B (fun _ => True) v5 tx) :
  Mid w (w5.alloc (.cells #[.int .i64 f1, .int .i64 f2] 26)) B g g3 w5.heap.size vt vh v5 text tx ths cs f1 f2 :=
 have hs := qe_ (Below.refl w5.heap.size w5) (.cells #[.int .i64 f1, .int .i64 f2] 26)
 ⟨below_low hb rv.size hs, rv.below hs, qn_ b3 hs, blk_new _ _, Kd.R_below ho hs⟩
theorem Mid.of_set {w w5 : World} {B g g3 g6 : Nat} {vt vh v5 : Value} {text tx : List ByteArray} {ths : List S34} {cs : Array Value} {f1 f2 : Int} (hb : Below B w w5) (rv : Rv w5 B g vt vh text ths) (b3 : w5.heap[g3]? = some (.cells cs 41 (0, 0))) (ho : Kd.R Kd.string 9 w5 B (fun _ => True) v5 tx)
  (b6 : w5.heap[g6]? = some (.cells #[.int .i64 0, .int .i64 0] 26 (0, 0))) (h6 : B ≤ g6) :
  Mid w ((w5.setCell ⟨g6, 0, none⟩ (.int .i64 f1)).setCell ⟨g6, 1, none⟩ (.int .i64 f2)) B g g3 g6 vt vh v5 text tx ths cs f1 f2 := by
 have c6 : (w5.setCell ⟨g6, 0, none⟩ (.int .i64 f1)).heap[g6]? = some (.cells #[.int .i64 f1, .int .i64 0] 26 (0, 0)) := q6_ b6 0 _ rfl
 have n3 := blk_ne b3 b6 (by decide)
 exact ⟨below_put (below_put hb h6 _ _) h6 _ _, (rv.far b6 (by decide) (by decide) (by decide) _ _).far c6 (by decide) (by decide) (by decide) _ _, q7_ (q7_ b3 n3 _) n3 _, q6_ c6 1 _ rfl, Kd.R_set (Kd.R_set ho b6 (by decide) _ _) c6 (by decide) _ _⟩
set_option maxHeartbeats 8000000 in
set_option maxRecDepth 100000 in
theorem rvPatch.calls (k : Nat) (B g : Nat) (vt vh : Value) (text text' : List ByteArray) (ths ths' : List S34) (p : List S52) (Ap : Option Addr) (cp : Nat) (c' : Int) (w : World) (hrv : Rv w B g vt vh text ths) (hp : ∀ W, Below B w W → Kd.C k52 W Ap p.length p) (hcp : p.length ≤ cp) (h : rvPatch k text ths p = some (text', ths', c')) :
  Calls Try.prog 27 #[.pointer (some ⟨g, 0, none⟩), .agg #[.slice Ap p.length cp]] w fun e w' => ∃ vt' vh' : Value, e = .returned (.int .i64 c') ∧ Rv w' B g vt' vh' text' ths' ∧ Below B w w' := by
 have hu41 := Try.underlying41
 have hu49 := Try.underlying49
 have hu26 := Try.underlying26
 have hu34 := Try.underlying34
 have RV := qi_.mk hrv
 have HB := qi_.mk (Below.refl B w)
 have HP := qi_.mk hp
 have HCP := qi_.mk hcp
 have xg0 := (qb_ hrv.blk 0).trans rfl
 have xg1 := (qb_ hrv.blk 1).trans rfl
 obtain ⟨At, ct, rfl⟩ := hrv.texts
 obtain ⟨Ah, ch, rfl⟩ := hrv.threads
 clear hrv hp hcp
 unfold rvPatch at h
 obtain ⟨⟨tx, f1, f2⟩, ha, H⟩ := Option.bind_eq_some_iff.mp h
 clear h
 have HA := qi_.mk ha
 clear ha
 dsimp only at H
 go_enter Try.func27, Try.ntmps27
 go_upto_region 1 with (first | ((with_reducible refine gate_dst (N := 3) rfl ?_); refine q1_ ?hg (N := 3) ?hd (cs := #[.slice Ap p.length cp]) (t := 41) ?hr ?_; (case hd => rfl); (case hg => rfl); (case hr => first | (go_simp; done) | (go_simp; rfl)); intro g3 hg w3 hbox hb; have n0_ := qi_.mk (below_low HB.out (RV.out.size) hb); have n1_ := qi_.mk (RV.out.below hb); have BK3 := qi_.mk hbox; have GE3 : qi_ (B ≤ g3) := qi_.mk (by rw [hg]; exact RV.out.size); clear HB RV; have HB := n0_; have RV := n1_; clear n0_ n1_ hb hbox hg; (try clear xg0 xg1); have xg0 := (qb_ RV.out.blk 0).trans rfl; have xg1 := (qb_ RV.out.blk 1).trans rfl; have xe0 := (qb_ BK3.out 0).trans rfl) | fail)
 go_cut [5, 6] from 11 (fun v5 v6 wx => ∃ (A5 : Option Addr) (c5 g6 : Nat), v5 = .slice A5 tx.length c5 ∧ v6 = .pointer (some ⟨g6, 0, none⟩) ∧ Mid w wx B g g3 g6 (.slice At text.length ct) (.slice Ah ths.length ch) v5 text tx ths #[.slice Ap p.length cp] f1 f2)
 case first =>
  have HW3 : ∀ W, Below w3.heap.size w3 W → Below B w W ∧ Rv W B g (.slice At text.length ct) (.slice Ah ths.length ch) text ths ∧ W.heap[g3]? = some (.cells #[.slice Ap p.length cp] 41 (0, 0)) := fun W hW => ⟨below_low HB.out RV.out.size hW, RV.out.below hW, qn_ BK3.out hW⟩
  have HW := qi_.mk HW3
  clear HW3
  have HS3 := RV.out.size
  go_region_law (go_simp; go_at_call 22; refine (qy_.calls k Ap cp p At ct text tx f1 f2 _ (HP.out _ (HW.out _ (by repeat (first | (with_reducible first | exact Below.refl _ _ | apply qe_ | apply qc_) | exact Below.refl _ _))).1) HCP.out (Kd.R_reads' (HW.out _ (by repeat (first | (with_reducible first | exact Below.refl _ _ | apply qe_ | apply qc_) | exact Below.refl _ _))).2.1.tx).2.2 (Kd.R_reads' (HW.out _ (by repeat (first | (with_reducible first | exact Below.refl _ _ | apply qe_ | apply qc_) | exact Below.refl _ _))).2.1.tx).2.1 HA.out).mono ?_; rintro e w5 ⟨v5, rfl, ho, hb⟩; obtain ⟨A5, c5, rfl⟩ := Kd.R_slice ho; (try have BK6 : qi_ (w5.heap[w3.heap.size]? = some (.cells #[.int .i64 0, .int .i64 0] 26 (0, 0))) := qi_.mk (qn_ (blk_new w3.drew (.cells #[.int .i64 0, .int .i64 0] 26)) hb)); (try have yc0 := (qb_ BK6.out 0).trans rfl); (try have yc1 := (qb_ BK6.out 1).trans rfl); (try have yf0 := qg_ BK6.out 0); (try have yf1 := qg_ BK6.out 1); have HB5 := qi_.mk (below_low (HW.out _ (by repeat (first | (with_reducible first | exact Below.refl _ _ | apply qe_ | apply qc_) | exact Below.refl _ _))).1 (HW.out _ (by repeat (first | (with_reducible first | exact Below.refl _ _ | apply qe_ | apply qc_) | exact Below.refl _ _))).2.1.size hb); have RV5 := qi_.mk ((HW.out _ (by repeat (first | (with_reducible first | exact Below.refl _ _ | apply qe_ | apply qc_) | exact Below.refl _ _))).2.1.below hb); have BK35 := qi_.mk (qn_ (HW.out _ (by repeat (first | (with_reducible first | exact Below.refl _ _ | apply qe_ | apply qc_) | exact Below.refl _ _))).2.2 hb); have HO := qi_.mk (Kd.R_lower ho (HW.out _ (by repeat (first | (with_reducible first | exact Below.refl _ _ | apply qe_ | apply qc_) | exact Below.refl _ _))).2.1.size); clear ho hb)
  all_goals (go_wp2_with fail; go_meet; exact ⟨A5, c5, _, rfl, rfl, by first | exact Mid.of_alloc HB5.out RV5.out BK35.out HO.out | exact Mid.of_set HB5.out RV5.out BK35.out HO.out BK6.out HS3⟩)
 case rest =>
  obtain ⟨A5, c5, g6, rfl, rfl, HM⟩ := hcut
  have RV := qi_.mk HM.rv
  have HB := qi_.mk HM.hb
  have BK3 := qi_.mk HM.b3
  have BK6 := qi_.mk HM.b6
  have HO := qi_.mk HM.ho
  clear HM
  have xg0 := (qb_ RV.out.blk 0).trans rfl
  have xg1 := (qb_ RV.out.blk 1).trans rfl
  have zg0 := qg_ RV.out.blk 0
  have xe0 := (qb_ BK3.out 0).trans rfl
  have xf0 := (qb_ BK6.out 0).trans rfl
  have xf1 := (qb_ BK6.out 1).trans rfl
  by_cases q1 : (f1 == 0 && (f2 == 0)) = true
  ·rw [if_pos q1] at H
   have q3 : (!(f1 == 0) || (!(f2 == 0))) = false := by simp at q1; simp [q1.1, q1.2]
   clear q1
   obtain ⟨r, hr, H⟩ := Option.bind_eq_some_iff.mp H
   have HR := qi_.mk hr
   clear hr
   simp only [Option.some.injEq, Prod.mk.injEq] at H
   obtain ⟨rfl, rfl, rfl⟩ := H
   go_wp2_with fail
   go_loopg [34] ths.length (fun kq v34 w' => ∃ (done rest s : List S34), v34 = .int .i64 (done.length : Int) ∧ qi_ (rest.length = kq) ∧ qi_ (done.length + rest.length = ths.length) ∧ qi_ (rvMove k p rest = some s) ∧ qi_ (r = done ++ s) ∧ qi_ (Rv w' B g (.slice A5 tx.length c5) (.slice Ah ths.length ch) tx (done ++ rest)) ∧ qi_ (w'.heap[g3]? = some (.cells #[.slice Ap p.length cp] 41 (0, 0))) ∧ qi_ (Below B w w'))
   case atStart => exact ⟨[], ths, r, rfl, ⟨rfl⟩, ⟨by simp⟩, HR, ⟨rfl⟩, ⟨Rv.put_tx RV.out HO.out⟩, ⟨q7_ BK3.out (blk_ne BK3.out RV.out.blk (by decide)) _⟩, ⟨below_put HB.out RV.out.ge _ _⟩⟩
   case round =>
    clear HR RV BK3 HB HO xg0 xg1 zg0 xe0 xf0 xf1
    obtain ⟨done, rest, s, rfl, HK, HL, HS, HR, RV, BK3, HB⟩ := hrel
    have xg0 := (qb_ RV.out.blk 0).trans rfl
    have xg1 := (qb_ RV.out.blk 1).trans rfl
    have xe0 := (qb_ BK3.out 0).trans rfl
    cases rest with
    | nil =>
     have hx : ¬ ((done.length : Int) < (ths.length : Int)) := by have := HL.out; simp at this; omega
     have hxd : decide ((done.length : Int) < (ths.length : Int)) = false := decide_eq_false hx
     have e_ : s = [] := by have h_ := HS.out; simp only [rvMove, Option.some.injEq] at h_; exact h_.symm
     subst e_
     go_wp2
     go_ret
     exact ⟨by rfl, ⟨_, _, by have h_ := RV.out; rw [HR.out]; exact h_⟩, HB.out⟩
    | cons t ts =>
     have hx : ((done.length : Int) < (ths.length : Int)) := by have := HL.out; simp at this; omega
     have hxd : decide ((done.length : Int) < (ths.length : Int)) = true := decide_eq_true hx
     have hl1 : wrap64 ((done.length : Int) + 1) = ((done ++ [t]).length : Int) ∧ ∀ t' : S34, wrap64 ((done.length : Int) + 1) = ((done ++ [t']).length : Int) := by
      have h12 := RV.out.le
      have h13 : wrap64 ((done.length : Int) + 1) = (done.length : Int) + 1 := by
       rw [List.length_append, List.length_cons] at h12
       unfold wrap64
       omega
      constructor
      ·rw [h13, List.length_append, List.length_singleton]; rfl
      ·intro t'
       rw [h13, List.length_append, List.length_singleton]; rfl
     obtain ⟨hl1, hl2⟩ := hl1
     obtain ⟨gh, rfl⟩ : ∃ gh, Ah = some ⟨gh, 0, none⟩ := by
      obtain ⟨gh, cap_, hv_, _⟩ := Kd.R_form RV.out.th (by rw [List.length_append, List.length_cons]; omega)
      injection hv_ with hA_
      exact ⟨gh, hA_⟩
     obtain ⟨hce, hfe, hBe⟩ := RV.out.elem
     have HCE := qi_.mk hce
     have HFE := qi_.mk hfe
     clear hce hfe
     have hc1 := HCE.out 1 _ rfl
     have hc3 := HCE.out 3 _ rfl
     obtain ⟨kz, hkz⟩ : ∃ kz, gk = kz + 1 := ⟨ts.length, by have := HK.out; rw [List.length_cons] at this; omega⟩
     have HK1 : qi_ (ts.length = kz) := ⟨by have := HK.out; rw [List.length_cons] at this; omega⟩
     have hs := HS.out
     unfold rvMove at hs
     clear HS
     by_cases q5 : t.f3 = true
     ·rw [if_pos q5] at hs
      obtain ⟨s1, hs1, hs⟩ := Option.bind_eq_some_iff.mp hs
      cases hs
      have HS1 := qi_.mk hs1
      clear hs1
      go_wp2
      go_roundg kz
      case measure => omega
      case rel => exact ⟨done ++ [t], ts, s1, congrArg _ hl1, HK1, ⟨by have := HL.out; rw [List.length_append, List.length_singleton]; rw [List.length_cons] at this; omega⟩, HS1, ⟨by rw [HR.out, List.append_assoc]; rfl⟩, ⟨by rw [List.append_assoc]; exact RV.out⟩, BK3, HB⟩
     ·rw [if_neg q5] at hs
      obtain ⟨⟨x1, x2⟩, hx1, hs⟩ := Option.bind_eq_some_iff.mp hs
      obtain ⟨s1, hs1, hs⟩ := Option.bind_eq_some_iff.mp hs
      cases hs
      have HS1 := qi_.mk hs1
      have HX := qi_.mk hx1
      clear hs1 hx1
      have q5b : t.f3 = false := by simpa using q5
      go_wp2
      have HW3 : ∀ W, Below wr.heap.size wr W → Below B w W ∧ Rv W B g (.slice A5 tx.length c5) (.slice (some ⟨gh, 0, none⟩) ths.length ch) tx (done ++ t :: ts) ∧ W.heap[g3]? = some (.cells #[.slice Ap p.length cp] 41 (0, 0)) := fun W hW => ⟨below_low HB.out RV.out.size hW, RV.out.below hW, qn_ BK3.out hW⟩
      have HW := qi_.mk HW3
      clear HW3
      go_region_law (go_simp; go_at_call 35; refine (anchor_Place.calls k Ap cp p t.f1 x1 x2 _ (HP.out _ (HW.out _ (by repeat (first | (with_reducible first | exact Below.refl _ _ | apply qe_ | apply qc_) | exact Below.refl _ _))).1) HCP.out HX.out).mono ?_; rintro e w7 ⟨rfl, hb⟩; obtain ⟨h1_, h2_, h3_⟩ := HW.out wr.drew (by repeat (first | (with_reducible first | exact Below.refl _ _ | apply qe_ | apply qc_) | exact Below.refl _ _)); have HB7 := qi_.mk (below_low h1_ h2_.size hb); have RV7 := qi_.mk (h2_.below hb); have BK37 := qi_.mk (qn_ h3_ hb); clear h1_ h2_ h3_ hb; have hd1 := RV7.out.elem.1 1 _ rfl; have hd3 := RV7.out.elem.1 3 _ rfl; have hg1 := RV7.out.elem.2.1 1; have hg3 := RV7.out.elem.2.1 3)
      all_goals (
       have n3 : g3 ≠ gh := by
        obtain ⟨cells_, hc_⟩ := Kd.R_typed RV7.out.th gh rfl
        exact blk_ne BK37.out hc_ (by decide)
       cases x2 with
       | true =>
        have hpe := Rv.put_elem (t := t) ⟨t.f0, x1, t.f2, t.f3, t.f4⟩ 1 (.int .i64 x1) (by decide) rfl RV7.out
        go_wp2
        go_roundg kz
        case measure => omega
        case rel => exact ⟨done ++ [(⟨t.f0, x1, t.f2, t.f3, t.f4⟩ : S34)], ts, s1, by (first | exact congrArg _ (hl2 _) | (rw [List.length_append, List.length_singleton]; rfl)), HK1, ⟨by have := HL.out; rw [List.length_append, List.length_singleton]; rw [List.length_cons] at this; omega⟩, HS1, ⟨by rw [HR.out, List.append_assoc]; rfl⟩, ⟨by rw [List.append_assoc]; exact hpe⟩, ⟨q7_ BK37.out n3 _⟩, ⟨below_put HB7.out hBe _ _⟩⟩
       | false =>
        have hpe := Rv.put_elem (t := t) ⟨t.f0, t.f1, t.f2, true, t.f4⟩ 3 (.bool true) (by decide) rfl RV7.out
        go_wp2
        go_roundg kz
        case measure => omega
        case rel => exact ⟨done ++ [(⟨t.f0, t.f1, t.f2, true, t.f4⟩ : S34)], ts, s1, by (first | exact congrArg _ (hl2 _) | (rw [List.length_append, List.length_singleton]; rfl)), HK1, ⟨by have := HL.out; rw [List.length_append, List.length_singleton]; rw [List.length_cons] at this; omega⟩, HS1, ⟨by rw [HR.out, List.append_assoc]; rfl⟩, ⟨by rw [List.append_assoc]; exact hpe⟩, ⟨q7_ BK37.out n3 _⟩, ⟨below_put HB7.out hBe _ _⟩⟩)
  ·rw [if_neg q1] at H
   have q2 : (f1 == 0 && (f2 == 0)) = false := by simpa using q1
   have q3 : (!(f1 == 0) || (!(f2 == 0))) = true := by have h_ := congrArg not q2; simpa [Bool.not_and] using h_
   simp only [Option.some.injEq, Prod.mk.injEq] at H
   obtain ⟨rfl, rfl, rfl⟩ := H
   go_wp2_with fail
   go_ret
   exact ⟨_, _, by rfl, RV.out, HB.out⟩
end Go.Proofs.Ytjpdcnaealdbjaa.PTh
namespace Go.Proofs.Ytjpdcnaealdbjaa.PTh
open Go.RowKit Go.Proofs.YtjpdcnaealdbjaaW.PrintWords Go.Proofs.YtjpdcnaealdbjaaW.PrintLast Go.Proofs.YtjpdcnaealdbjaaW.PrintMore
attribute [local go_sem] max2_int min2_int max_two min_two max_three min_three max_four min_four
attribute [local go_sem] World.cell?_alloc_some
set_option linter.unusedVariables false
set_option linter.unusedSimpArgs false


def rvTouch (text : List ByteArray) (ths : List S34) (e0 e1 e2 : Int) : List ByteArray × List S34 × Int :=
 if e2 < 0 then (text, ths, 6) else (if (ths.length : Int) ≤ e2 then (text, ths, 6) else
  (if e0 = 2 then (text, ths.set e2.toNat ⟨(ths.getD e2.toNat z34).f0, (ths.getD e2.toNat z34).f1, wrap64 ((ths.getD e2.toNat z34).f2 + 1), (ths.getD e2.toNat z34).f3, false⟩, 0)
   else (if (ths.getD e2.toNat z34).f4 = true then (text, ths, 11) else (if (ths.getD e2.toNat z34).f0 = e1 then (text, ths.set e2.toNat ⟨(ths.getD e2.toNat z34).f0, (ths.getD e2.toNat z34).f1, (ths.getD e2.toNat z34).f2, (ths.getD e2.toNat z34).f3, true⟩, 0) else (text, ths, 13)))))
def rvStep (k : Nat) (text : List ByteArray) (ths : List S34) (e0 e1 e2 e3 : Int) (e4 : ByteArray) (p : List S52) : Option (List ByteArray × List S34 × Int) :=
 if e0 < 1 then some (text, ths, 4) else (if 4 < e0 then some (text, ths, 4) else
  ((threads_unused.f e0 e1 e2 e3 e4 p).bind fun u => if u = true then some (text, ths, 5) else
   (if e1 < 0 then some (text, ths, 3) else (if 7 < e1 then some (text, ths, 3) else
    (if e0 = 1 then ((rvOpen k text ths e1 e3 e4).bind fun o => some (text, o.1, o.2)) else
     (if e0 = 4 then rvPatch k text ths p else
      (if e0 = 2 then ((threads_textCode.f k e4).bind fun c => if c = 0 then some (rvTouch text ths e0 e1 e2) else some (text, ths, c)) else some (rvTouch text ths e0 e1 e2))))))))
theorem rvStep.mono : ∀ text ths e0 e1 e2 e3 e4 p k, LeO (rvStep k text ths e0 e1 e2 e3 e4 p) (rvStep (k + 1) text ths e0 e1 e2 e3 e4 p) := by
 intro text ths e0 e1 e2 e3 e4 p k
 unfold rvStep
 exact LeO.ite (LeO.refl _) (LeO.ite (LeO.refl _) (LeO.bind (LeO.refl _) (fun _ => LeO.ite (LeO.refl _) (LeO.ite (LeO.refl _) (LeO.ite (LeO.refl _) (LeO.ite (LeO.bind (rvOpen.mono _ _ _ _ _ _) (fun _ => LeO.refl _)) (LeO.ite (rvPatch.mono _ _ _ _) (LeO.ite (LeO.bind (threads_textCode.mono _ _) (fun _ => LeO.refl _)) (LeO.refl _)))))))))

theorem split_at (ths : List S34) (i : Int) (h0 : 0 ≤ i) (h1 : ¬ (ths.length : Int) ≤ i) : ∃ dn t ts, ths = dn ++ t :: ts ∧ i = (dn.length : Int) := by
 have hi : i.toNat < ths.length := by omega
 refine ⟨ths.take i.toNat, ths[i.toNat], ths.drop (i.toNat + 1), ?_, ?_⟩
 ·rw [← List.drop_eq_getElem_cons hi, List.take_append_drop]
 ·rw [List.length_take]; omega
set_option maxHeartbeats 8000000 in
set_option maxRecDepth 100000 in
theorem rvStep.calls (k : Nat) (B g : Nat) (vt vh : Value) (text text' : List ByteArray) (ths ths' : List S34) (e0 e1 e2 e3 : Int) (e4 : ByteArray) (A5 : Option Addr) (c5 : Nat) (p : List S52) (c' : Int) (w : World) (hrv : Rv w B g vt vh text ths) (hp : ∀ W, Below B w W → Kd.C k52 W A5 p.length p) (hcp : p.length ≤ c5) (h : rvStep k text ths e0 e1 e2 e3 e4 p = some (text', ths', c')) :
  Calls Try.prog 18 #[.pointer (some ⟨g, 0, none⟩), .agg #[.int .i64 e0, .int .i64 e1, .int .i64 e2, .int .i64 e3, .string e4, .slice A5 p.length c5]] w fun e w' => ∃ vt' vh' : Value, e = .returned (.int .i64 c') ∧ Rv w' B g vt' vh' text' ths' ∧ Below B w w' := by
 have hu43 := Try.underlying43
 have hu49 := Try.underlying49
 have hu34 := Try.underlying34
 have RV := qi_.mk hrv
 have HB := qi_.mk (Below.refl B w)
 have HP := qi_.mk hp
 have HCP := qi_.mk hcp
 have xg0 := (qb_ hrv.blk 0).trans rfl
 have xg1 := (qb_ hrv.blk 1).trans rfl
 obtain ⟨At, ct, rfl⟩ := hrv.texts
 obtain ⟨Ah, ch, rfl⟩ := hrv.threads
 clear hrv hp hcp
 have H := h
 clear h
 unfold rvStep at H
 by_cases k1 : e0 < 1
 ·rw [if_pos k1] at H
  have k1a : decide (e0 < 1) = true := decide_eq_true (by omega)
  have k1b : decide (1 > e0) = true := decide_eq_true (by omega)
  simp only [Option.some.injEq, Prod.mk.injEq] at H
  obtain ⟨rfl, rfl, rfl⟩ := H
  go_enter Try.func18, Try.ntmps18
  go_wp2_with (first | ((with_reducible refine gate_dst (N := 3) rfl ?_); refine q1_ ?hg (N := 3) ?hd (cs := #[.int .i64 e0, .int .i64 e1, .int .i64 e2, .int .i64 e3, .string e4, .slice A5 p.length c5]) (t := 43) ?hr ?_; (case hd => rfl); (case hg => rfl); (case hr => first | (go_simp; done) | (go_simp; rfl)); intro g3 hg w3 hbox hb; have n0_ := qi_.mk (below_low HB.out (RV.out.size) hb); have n1_ := qi_.mk (RV.out.below hb); have BK3 := qi_.mk hbox; have GE3 : qi_ (B ≤ g3) := qi_.mk (by rw [hg]; exact RV.out.size); clear HB RV; have HB := n0_; have RV := n1_; clear n0_ n1_ hb hbox hg; (try clear xg0 xg1 xe0 xe1 xe2 xe3 xe4 xe5); (try clear xt0 xt2 xt4 zt0 zt2 zt4); have xg0 := (qb_ RV.out.blk 0).trans rfl; have xg1 := (qb_ RV.out.blk 1).trans rfl; have xe0 := (qb_ BK3.out 0).trans rfl; have xe1 := (qb_ BK3.out 1).trans rfl; have xe2 := (qb_ BK3.out 2).trans rfl; have xe3 := (qb_ BK3.out 3).trans rfl; have xe4 := (qb_ BK3.out 4).trans rfl; have xe5 := (qb_ BK3.out 5).trans rfl; (try (have HEL := RV.out.elem; have xt0 := HEL.1 0 _ rfl; rw [Nat.add_zero] at xt0; have xt2 := HEL.1 2 _ rfl; have xt4 := HEL.1 4 _ rfl; have zt0 := HEL.2.1 0; have zt2 := HEL.2.1 2; have zt4 := HEL.2.1 4; clear HEL))) | fail)
  go_ret
  first | exact ⟨_, _, by rfl, (by first | exact RV.out | exact RV.out.drewN _ | exact (RV.out.drewN _).drewN _ | exact ((RV.out.drewN _).drewN _).drewN _), (by repeat (first | (with_reducible first | exact HB.out | apply qa_ | apply qc_) | exact HB.out))⟩ | exact ⟨by rfl, ⟨_, _, (by first | exact RV.out | exact RV.out.drewN _ | exact (RV.out.drewN _).drewN _ | exact ((RV.out.drewN _).drewN _).drewN _)⟩, (by repeat (first | (with_reducible first | exact HB.out | apply qa_ | apply qc_) | exact HB.out))⟩
 ·rw [if_neg k1] at H
  have k1a : decide (e0 < 1) = false := decide_eq_false (by omega)
  have k1b : decide (1 > e0) = false := decide_eq_false (by omega)
  by_cases k4 : 4 < e0
  ·rw [if_pos k4] at H
   have k4a : decide (4 < e0) = true := decide_eq_true (by omega)
   have k4b : decide (e0 > 4) = true := decide_eq_true (by omega)
   simp only [Option.some.injEq, Prod.mk.injEq] at H
   obtain ⟨rfl, rfl, rfl⟩ := H
   go_enter Try.func18, Try.ntmps18
   go_wp2_with (first | ((with_reducible refine gate_dst (N := 3) rfl ?_); refine q1_ ?hg (N := 3) ?hd (cs := #[.int .i64 e0, .int .i64 e1, .int .i64 e2, .int .i64 e3, .string e4, .slice A5 p.length c5]) (t := 43) ?hr ?_; (case hd => rfl); (case hg => rfl); (case hr => first | (go_simp; done) | (go_simp; rfl)); intro g3 hg w3 hbox hb; have n0_ := qi_.mk (below_low HB.out (RV.out.size) hb); have n1_ := qi_.mk (RV.out.below hb); have BK3 := qi_.mk hbox; have GE3 : qi_ (B ≤ g3) := qi_.mk (by rw [hg]; exact RV.out.size); clear HB RV; have HB := n0_; have RV := n1_; clear n0_ n1_ hb hbox hg; (try clear xg0 xg1 xe0 xe1 xe2 xe3 xe4 xe5); (try clear xt0 xt2 xt4 zt0 zt2 zt4); have xg0 := (qb_ RV.out.blk 0).trans rfl; have xg1 := (qb_ RV.out.blk 1).trans rfl; have xe0 := (qb_ BK3.out 0).trans rfl; have xe1 := (qb_ BK3.out 1).trans rfl; have xe2 := (qb_ BK3.out 2).trans rfl; have xe3 := (qb_ BK3.out 3).trans rfl; have xe4 := (qb_ BK3.out 4).trans rfl; have xe5 := (qb_ BK3.out 5).trans rfl; (try (have HEL := RV.out.elem; have xt0 := HEL.1 0 _ rfl; rw [Nat.add_zero] at xt0; have xt2 := HEL.1 2 _ rfl; have xt4 := HEL.1 4 _ rfl; have zt0 := HEL.2.1 0; have zt2 := HEL.2.1 2; have zt4 := HEL.2.1 4; clear HEL))) | fail)
   go_ret
   first | exact ⟨_, _, by rfl, (by first | exact RV.out | exact RV.out.drewN _ | exact (RV.out.drewN _).drewN _ | exact ((RV.out.drewN _).drewN _).drewN _), (by repeat (first | (with_reducible first | exact HB.out | apply qa_ | apply qc_) | exact HB.out))⟩ | exact ⟨by rfl, ⟨_, _, (by first | exact RV.out | exact RV.out.drewN _ | exact (RV.out.drewN _).drewN _ | exact ((RV.out.drewN _).drewN _).drewN _)⟩, (by repeat (first | (with_reducible first | exact HB.out | apply qa_ | apply qc_) | exact HB.out))⟩
  ·rw [if_neg k4] at H
   have k4a : decide (4 < e0) = false := decide_eq_false (by omega)
   have k4b : decide (e0 > 4) = false := decide_eq_false (by omega)
   obtain ⟨u, hu, H⟩ := Option.bind_eq_some_iff.mp H
   have HU := qi_.mk hu
   clear hu
   by_cases u1 : u = true
   ·rw [if_pos u1] at H
    subst u1
    simp only [Option.some.injEq, Prod.mk.injEq] at H
    obtain ⟨rfl, rfl, rfl⟩ := H
    go_enter Try.func18, Try.ntmps18
    go_wp2_with (first | ((with_reducible refine gate_dst (N := 3) rfl ?_); refine q1_ ?hg (N := 3) ?hd (cs := #[.int .i64 e0, .int .i64 e1, .int .i64 e2, .int .i64 e3, .string e4, .slice A5 p.length c5]) (t := 43) ?hr ?_; (case hd => rfl); (case hg => rfl); (case hr => first | (go_simp; done) | (go_simp; rfl)); intro g3 hg w3 hbox hb; have n0_ := qi_.mk (below_low HB.out (RV.out.size) hb); have n1_ := qi_.mk (RV.out.below hb); have BK3 := qi_.mk hbox; have GE3 : qi_ (B ≤ g3) := qi_.mk (by rw [hg]; exact RV.out.size); clear HB RV; have HB := n0_; have RV := n1_; clear n0_ n1_ hb hbox hg; (try clear xg0 xg1 xe0 xe1 xe2 xe3 xe4 xe5); (try clear xt0 xt2 xt4 zt0 zt2 zt4); have xg0 := (qb_ RV.out.blk 0).trans rfl; have xg1 := (qb_ RV.out.blk 1).trans rfl; have xe0 := (qb_ BK3.out 0).trans rfl; have xe1 := (qb_ BK3.out 1).trans rfl; have xe2 := (qb_ BK3.out 2).trans rfl; have xe3 := (qb_ BK3.out 3).trans rfl; have xe4 := (qb_ BK3.out 4).trans rfl; have xe5 := (qb_ BK3.out 5).trans rfl; (try (have HEL := RV.out.elem; have xt0 := HEL.1 0 _ rfl; rw [Nat.add_zero] at xt0; have xt2 := HEL.1 2 _ rfl; have xt4 := HEL.1 4 _ rfl; have zt0 := HEL.2.1 0; have zt2 := HEL.2.1 2; have zt4 := HEL.2.1 4; clear HEL))) | ((with_reducible refine q2_ (f := 25) rfl ?_); refine goesL_ (some 18) rfl rfl Try.func25 (by kernel_rfl) rfl #[.agg #[.int .i64 e0, .int .i64 e1, .int .i64 e2, .int .i64 e3, .string e4, .slice A5 p.length c5]] rfl (by simp only [List.map_toArray]; first | done | rfl) ?_; refine (threads_unused.calls e0 e1 e2 e3 e4 A5 c5 p _ _ (HP.out _ HB.out) HCP.out HU.out).mono ?_; rintro e w4 ⟨rfl, hb⟩; refine ⟨_, rfl, ?_⟩; have n0_ := qi_.mk (below_low HB.out (RV.out.size) hb); have n1_ := qi_.mk (RV.out.below hb); have n2_ := qi_.mk (qn_ BK3.out hb); clear HB RV BK3; have HB := n0_; have RV := n1_; have BK3 := n2_; clear n0_ n1_ n2_ hb; (try clear xg0 xg1 xe0 xe1 xe2 xe3 xe4 xe5); (try clear xt0 xt2 xt4 zt0 zt2 zt4); have xg0 := (qb_ RV.out.blk 0).trans rfl; have xg1 := (qb_ RV.out.blk 1).trans rfl; have xe0 := (qb_ BK3.out 0).trans rfl; have xe1 := (qb_ BK3.out 1).trans rfl; have xe2 := (qb_ BK3.out 2).trans rfl; have xe3 := (qb_ BK3.out 3).trans rfl; have xe4 := (qb_ BK3.out 4).trans rfl; have xe5 := (qb_ BK3.out 5).trans rfl; (try (have HEL := RV.out.elem; have xt0 := HEL.1 0 _ rfl; rw [Nat.add_zero] at xt0; have xt2 := HEL.1 2 _ rfl; have xt4 := HEL.1 4 _ rfl; have zt0 := HEL.2.1 0; have zt2 := HEL.2.1 2; have zt4 := HEL.2.1 4; clear HEL))) | fail)
    go_ret
    first | exact ⟨_, _, by rfl, (by first | exact RV.out | exact RV.out.drewN _ | exact (RV.out.drewN _).drewN _ | exact ((RV.out.drewN _).drewN _).drewN _), (by repeat (first | (with_reducible first | exact HB.out | apply qa_ | apply qc_) | exact HB.out))⟩ | exact ⟨by rfl, ⟨_, _, (by first | exact RV.out | exact RV.out.drewN _ | exact (RV.out.drewN _).drewN _ | exact ((RV.out.drewN _).drewN _).drewN _)⟩, (by repeat (first | (with_reducible first | exact HB.out | apply qa_ | apply qc_) | exact HB.out))⟩
   ·rw [if_neg u1] at H
    obtain rfl : u = false := by simpa using u1
    clear u1
    by_cases m1 : e1 < 0
    ·rw [if_pos m1] at H
     have m1a : decide (e1 < 0) = true := decide_eq_true (by omega)
     have m1b : decide (0 > e1) = true := decide_eq_true (by omega)
     simp only [Option.some.injEq, Prod.mk.injEq] at H
     obtain ⟨rfl, rfl, rfl⟩ := H
     go_enter Try.func18, Try.ntmps18
     go_wp2_with (first | ((with_reducible refine gate_dst (N := 3) rfl ?_); refine q1_ ?hg (N := 3) ?hd (cs := #[.int .i64 e0, .int .i64 e1, .int .i64 e2, .int .i64 e3, .string e4, .slice A5 p.length c5]) (t := 43) ?hr ?_; (case hd => rfl); (case hg => rfl); (case hr => first | (go_simp; done) | (go_simp; rfl)); intro g3 hg w3 hbox hb; have n0_ := qi_.mk (below_low HB.out (RV.out.size) hb); have n1_ := qi_.mk (RV.out.below hb); have BK3 := qi_.mk hbox; have GE3 : qi_ (B ≤ g3) := qi_.mk (by rw [hg]; exact RV.out.size); clear HB RV; have HB := n0_; have RV := n1_; clear n0_ n1_ hb hbox hg; (try clear xg0 xg1 xe0 xe1 xe2 xe3 xe4 xe5); (try clear xt0 xt2 xt4 zt0 zt2 zt4); have xg0 := (qb_ RV.out.blk 0).trans rfl; have xg1 := (qb_ RV.out.blk 1).trans rfl; have xe0 := (qb_ BK3.out 0).trans rfl; have xe1 := (qb_ BK3.out 1).trans rfl; have xe2 := (qb_ BK3.out 2).trans rfl; have xe3 := (qb_ BK3.out 3).trans rfl; have xe4 := (qb_ BK3.out 4).trans rfl; have xe5 := (qb_ BK3.out 5).trans rfl; (try (have HEL := RV.out.elem; have xt0 := HEL.1 0 _ rfl; rw [Nat.add_zero] at xt0; have xt2 := HEL.1 2 _ rfl; have xt4 := HEL.1 4 _ rfl; have zt0 := HEL.2.1 0; have zt2 := HEL.2.1 2; have zt4 := HEL.2.1 4; clear HEL))) | ((with_reducible refine q2_ (f := 25) rfl ?_); refine goesL_ (some 18) rfl rfl Try.func25 (by kernel_rfl) rfl #[.agg #[.int .i64 e0, .int .i64 e1, .int .i64 e2, .int .i64 e3, .string e4, .slice A5 p.length c5]] rfl (by simp only [List.map_toArray]; first | done | rfl) ?_; refine (threads_unused.calls e0 e1 e2 e3 e4 A5 c5 p _ _ (HP.out _ HB.out) HCP.out HU.out).mono ?_; rintro e w4 ⟨rfl, hb⟩; refine ⟨_, rfl, ?_⟩; have n0_ := qi_.mk (below_low HB.out (RV.out.size) hb); have n1_ := qi_.mk (RV.out.below hb); have n2_ := qi_.mk (qn_ BK3.out hb); clear HB RV BK3; have HB := n0_; have RV := n1_; have BK3 := n2_; clear n0_ n1_ n2_ hb; (try clear xg0 xg1 xe0 xe1 xe2 xe3 xe4 xe5); (try clear xt0 xt2 xt4 zt0 zt2 zt4); have xg0 := (qb_ RV.out.blk 0).trans rfl; have xg1 := (qb_ RV.out.blk 1).trans rfl; have xe0 := (qb_ BK3.out 0).trans rfl; have xe1 := (qb_ BK3.out 1).trans rfl; have xe2 := (qb_ BK3.out 2).trans rfl; have xe3 := (qb_ BK3.out 3).trans rfl; have xe4 := (qb_ BK3.out 4).trans rfl; have xe5 := (qb_ BK3.out 5).trans rfl; (try (have HEL := RV.out.elem; have xt0 := HEL.1 0 _ rfl; rw [Nat.add_zero] at xt0; have xt2 := HEL.1 2 _ rfl; have xt4 := HEL.1 4 _ rfl; have zt0 := HEL.2.1 0; have zt2 := HEL.2.1 2; have zt4 := HEL.2.1 4; clear HEL))) | fail)
     go_ret
     first | exact ⟨_, _, by rfl, (by first | exact RV.out | exact RV.out.drewN _ | exact (RV.out.drewN _).drewN _ | exact ((RV.out.drewN _).drewN _).drewN _), (by repeat (first | (with_reducible first | exact HB.out | apply qa_ | apply qc_) | exact HB.out))⟩ | exact ⟨by rfl, ⟨_, _, (by first | exact RV.out | exact RV.out.drewN _ | exact (RV.out.drewN _).drewN _ | exact ((RV.out.drewN _).drewN _).drewN _)⟩, (by repeat (first | (with_reducible first | exact HB.out | apply qa_ | apply qc_) | exact HB.out))⟩
    ·rw [if_neg m1] at H
     have m1a : decide (e1 < 0) = false := decide_eq_false (by omega)
     have m1b : decide (0 > e1) = false := decide_eq_false (by omega)
     by_cases m7 : 7 < e1
     ·rw [if_pos m7] at H
      have m7a : decide (7 < e1) = true := decide_eq_true (by omega)
      have m7b : decide (e1 > 7) = true := decide_eq_true (by omega)
      simp only [Option.some.injEq, Prod.mk.injEq] at H
      obtain ⟨rfl, rfl, rfl⟩ := H
      go_enter Try.func18, Try.ntmps18
      go_wp2_with (first | ((with_reducible refine gate_dst (N := 3) rfl ?_); refine q1_ ?hg (N := 3) ?hd (cs := #[.int .i64 e0, .int .i64 e1, .int .i64 e2, .int .i64 e3, .string e4, .slice A5 p.length c5]) (t := 43) ?hr ?_; (case hd => rfl); (case hg => rfl); (case hr => first | (go_simp; done) | (go_simp; rfl)); intro g3 hg w3 hbox hb; have n0_ := qi_.mk (below_low HB.out (RV.out.size) hb); have n1_ := qi_.mk (RV.out.below hb); have BK3 := qi_.mk hbox; have GE3 : qi_ (B ≤ g3) := qi_.mk (by rw [hg]; exact RV.out.size); clear HB RV; have HB := n0_; have RV := n1_; clear n0_ n1_ hb hbox hg; (try clear xg0 xg1 xe0 xe1 xe2 xe3 xe4 xe5); (try clear xt0 xt2 xt4 zt0 zt2 zt4); have xg0 := (qb_ RV.out.blk 0).trans rfl; have xg1 := (qb_ RV.out.blk 1).trans rfl; have xe0 := (qb_ BK3.out 0).trans rfl; have xe1 := (qb_ BK3.out 1).trans rfl; have xe2 := (qb_ BK3.out 2).trans rfl; have xe3 := (qb_ BK3.out 3).trans rfl; have xe4 := (qb_ BK3.out 4).trans rfl; have xe5 := (qb_ BK3.out 5).trans rfl; (try (have HEL := RV.out.elem; have xt0 := HEL.1 0 _ rfl; rw [Nat.add_zero] at xt0; have xt2 := HEL.1 2 _ rfl; have xt4 := HEL.1 4 _ rfl; have zt0 := HEL.2.1 0; have zt2 := HEL.2.1 2; have zt4 := HEL.2.1 4; clear HEL))) | ((with_reducible refine q2_ (f := 25) rfl ?_); refine goesL_ (some 18) rfl rfl Try.func25 (by kernel_rfl) rfl #[.agg #[.int .i64 e0, .int .i64 e1, .int .i64 e2, .int .i64 e3, .string e4, .slice A5 p.length c5]] rfl (by simp only [List.map_toArray]; first | done | rfl) ?_; refine (threads_unused.calls e0 e1 e2 e3 e4 A5 c5 p _ _ (HP.out _ HB.out) HCP.out HU.out).mono ?_; rintro e w4 ⟨rfl, hb⟩; refine ⟨_, rfl, ?_⟩; have n0_ := qi_.mk (below_low HB.out (RV.out.size) hb); have n1_ := qi_.mk (RV.out.below hb); have n2_ := qi_.mk (qn_ BK3.out hb); clear HB RV BK3; have HB := n0_; have RV := n1_; have BK3 := n2_; clear n0_ n1_ n2_ hb; (try clear xg0 xg1 xe0 xe1 xe2 xe3 xe4 xe5); (try clear xt0 xt2 xt4 zt0 zt2 zt4); have xg0 := (qb_ RV.out.blk 0).trans rfl; have xg1 := (qb_ RV.out.blk 1).trans rfl; have xe0 := (qb_ BK3.out 0).trans rfl; have xe1 := (qb_ BK3.out 1).trans rfl; have xe2 := (qb_ BK3.out 2).trans rfl; have xe3 := (qb_ BK3.out 3).trans rfl; have xe4 := (qb_ BK3.out 4).trans rfl; have xe5 := (qb_ BK3.out 5).trans rfl; (try (have HEL := RV.out.elem; have xt0 := HEL.1 0 _ rfl; rw [Nat.add_zero] at xt0; have xt2 := HEL.1 2 _ rfl; have xt4 := HEL.1 4 _ rfl; have zt0 := HEL.2.1 0; have zt2 := HEL.2.1 2; have zt4 := HEL.2.1 4; clear HEL))) | fail)
      go_ret
      first | exact ⟨_, _, by rfl, (by first | exact RV.out | exact RV.out.drewN _ | exact (RV.out.drewN _).drewN _ | exact ((RV.out.drewN _).drewN _).drewN _), (by repeat (first | (with_reducible first | exact HB.out | apply qa_ | apply qc_) | exact HB.out))⟩ | exact ⟨by rfl, ⟨_, _, (by first | exact RV.out | exact RV.out.drewN _ | exact (RV.out.drewN _).drewN _ | exact ((RV.out.drewN _).drewN _).drewN _)⟩, (by repeat (first | (with_reducible first | exact HB.out | apply qa_ | apply qc_) | exact HB.out))⟩
     ·rw [if_neg m7] at H
      have m7a : decide (7 < e1) = false := decide_eq_false (by omega)
      have m7b : decide (e1 > 7) = false := decide_eq_false (by omega)
      by_cases p1 : e0 = 1
      ·rw [if_pos p1] at H
       have p1a : (e0 == 1) = true := beq_iff_eq.mpr p1
       have p1b : (e0 != 1) = false := bne_eq_false_iff_eq.mpr p1
       have p1A := qi_.mk p1
       clear p1
       obtain ⟨⟨o1, o2⟩, ho, H⟩ := Option.bind_eq_some_iff.mp H
       have HO := qi_.mk ho
       clear ho
       simp only [Option.some.injEq, Prod.mk.injEq] at H
       obtain ⟨rfl, rfl, rfl⟩ := H
       go_enter Try.func18, Try.ntmps18
       go_wp2_with (first | ((with_reducible refine gate_dst (N := 3) rfl ?_); refine q1_ ?hg (N := 3) ?hd (cs := #[.int .i64 e0, .int .i64 e1, .int .i64 e2, .int .i64 e3, .string e4, .slice A5 p.length c5]) (t := 43) ?hr ?_; (case hd => rfl); (case hg => rfl); (case hr => first | (go_simp; done) | (go_simp; rfl)); intro g3 hg w3 hbox hb; have n0_ := qi_.mk (below_low HB.out (RV.out.size) hb); have n1_ := qi_.mk (RV.out.below hb); have BK3 := qi_.mk hbox; have GE3 : qi_ (B ≤ g3) := qi_.mk (by rw [hg]; exact RV.out.size); clear HB RV; have HB := n0_; have RV := n1_; clear n0_ n1_ hb hbox hg; (try clear xg0 xg1 xe0 xe1 xe2 xe3 xe4 xe5); (try clear xt0 xt2 xt4 zt0 zt2 zt4); have xg0 := (qb_ RV.out.blk 0).trans rfl; have xg1 := (qb_ RV.out.blk 1).trans rfl; have xe0 := (qb_ BK3.out 0).trans rfl; have xe1 := (qb_ BK3.out 1).trans rfl; have xe2 := (qb_ BK3.out 2).trans rfl; have xe3 := (qb_ BK3.out 3).trans rfl; have xe4 := (qb_ BK3.out 4).trans rfl; have xe5 := (qb_ BK3.out 5).trans rfl; (try (have HEL := RV.out.elem; have xt0 := HEL.1 0 _ rfl; rw [Nat.add_zero] at xt0; have xt2 := HEL.1 2 _ rfl; have xt4 := HEL.1 4 _ rfl; have zt0 := HEL.2.1 0; have zt2 := HEL.2.1 2; have zt4 := HEL.2.1 4; clear HEL))) | ((with_reducible refine q2_ (f := 25) rfl ?_); refine goesL_ (some 18) rfl rfl Try.func25 (by kernel_rfl) rfl #[.agg #[.int .i64 e0, .int .i64 e1, .int .i64 e2, .int .i64 e3, .string e4, .slice A5 p.length c5]] rfl (by simp only [List.map_toArray]; first | done | rfl) ?_; refine (threads_unused.calls e0 e1 e2 e3 e4 A5 c5 p _ _ (HP.out _ HB.out) HCP.out HU.out).mono ?_; rintro e w4 ⟨rfl, hb⟩; refine ⟨_, rfl, ?_⟩; have n0_ := qi_.mk (below_low HB.out (RV.out.size) hb); have n1_ := qi_.mk (RV.out.below hb); have n2_ := qi_.mk (qn_ BK3.out hb); clear HB RV BK3; have HB := n0_; have RV := n1_; have BK3 := n2_; clear n0_ n1_ n2_ hb; (try clear xg0 xg1 xe0 xe1 xe2 xe3 xe4 xe5); (try clear xt0 xt2 xt4 zt0 zt2 zt4); have xg0 := (qb_ RV.out.blk 0).trans rfl; have xg1 := (qb_ RV.out.blk 1).trans rfl; have xe0 := (qb_ BK3.out 0).trans rfl; have xe1 := (qb_ BK3.out 1).trans rfl; have xe2 := (qb_ BK3.out 2).trans rfl; have xe3 := (qb_ BK3.out 3).trans rfl; have xe4 := (qb_ BK3.out 4).trans rfl; have xe5 := (qb_ BK3.out 5).trans rfl; (try (have HEL := RV.out.elem; have xt0 := HEL.1 0 _ rfl; rw [Nat.add_zero] at xt0; have xt2 := HEL.1 2 _ rfl; have xt4 := HEL.1 4 _ rfl; have zt0 := HEL.2.1 0; have zt2 := HEL.2.1 2; have zt4 := HEL.2.1 4; clear HEL))) | ((with_reducible refine q2_ (f := 26) rfl ?_); refine goesL_ (some 34) rfl rfl Try.func26 (by kernel_rfl) rfl #[.pointer (some ⟨g, 0, none⟩), .agg #[.int .i64 e0, .int .i64 e1, .int .i64 e2, .int .i64 e3, .string e4, .slice A5 p.length c5]] rfl (by simp only [List.map_toArray]; first | done | rfl) ?_; refine (rvOpen.calls k B g _ _ text ths _ e0 e1 e2 e3 e4 A5 p.length c5 _ _ RV.out HO.out).mono ?_; rintro e w5 ⟨vh1, rfl, rv1, hb1⟩; refine ⟨_, rfl, ?_⟩; have n0_ := qi_.mk (HB.out.trans hb1); have n1_ := qi_.mk rv1; clear HB RV BK3 hb1 rv1; have HB := n0_; have RV := n1_; clear n0_ n1_; (try clear xg0 xg1 xe0 xe1 xe2 xe3 xe4 xe5); (try clear xt0 xt2 xt4 zt0 zt2 zt4)) | fail)
       go_ret
       first | exact ⟨_, _, by rfl, (by first | exact RV.out | exact RV.out.drewN _ | exact (RV.out.drewN _).drewN _ | exact ((RV.out.drewN _).drewN _).drewN _), (by repeat (first | (with_reducible first | exact HB.out | apply qa_ | apply qc_) | exact HB.out))⟩ | exact ⟨by rfl, ⟨_, _, (by first | exact RV.out | exact RV.out.drewN _ | exact (RV.out.drewN _).drewN _ | exact ((RV.out.drewN _).drewN _).drewN _)⟩, (by repeat (first | (with_reducible first | exact HB.out | apply qa_ | apply qc_) | exact HB.out))⟩
      ·rw [if_neg p1] at H
       have p1a : (e0 == 1) = false := beq_eq_false_iff_ne.mpr p1
       have p1b : (e0 != 1) = true := bne_iff_ne.mpr p1
       by_cases p4 : e0 = 4
       ·rw [if_pos p4] at H
        have p4a : (e0 == 4) = true := beq_iff_eq.mpr p4
        have p4b : (e0 != 4) = false := bne_eq_false_iff_eq.mpr p4
        have p4A := qi_.mk p4
        clear p4
        have HO := qi_.mk H
        clear H
        go_enter Try.func18, Try.ntmps18
        go_wp2_with (first | ((with_reducible refine gate_dst (N := 3) rfl ?_); refine q1_ ?hg (N := 3) ?hd (cs := #[.int .i64 e0, .int .i64 e1, .int .i64 e2, .int .i64 e3, .string e4, .slice A5 p.length c5]) (t := 43) ?hr ?_; (case hd => rfl); (case hg => rfl); (case hr => first | (go_simp; done) | (go_simp; rfl)); intro g3 hg w3 hbox hb; have n0_ := qi_.mk (below_low HB.out (RV.out.size) hb); have n1_ := qi_.mk (RV.out.below hb); have BK3 := qi_.mk hbox; have GE3 : qi_ (B ≤ g3) := qi_.mk (by rw [hg]; exact RV.out.size); clear HB RV; have HB := n0_; have RV := n1_; clear n0_ n1_ hb hbox hg; (try clear xg0 xg1 xe0 xe1 xe2 xe3 xe4 xe5); (try clear xt0 xt2 xt4 zt0 zt2 zt4); have xg0 := (qb_ RV.out.blk 0).trans rfl; have xg1 := (qb_ RV.out.blk 1).trans rfl; have xe0 := (qb_ BK3.out 0).trans rfl; have xe1 := (qb_ BK3.out 1).trans rfl; have xe2 := (qb_ BK3.out 2).trans rfl; have xe3 := (qb_ BK3.out 3).trans rfl; have xe4 := (qb_ BK3.out 4).trans rfl; have xe5 := (qb_ BK3.out 5).trans rfl; (try (have HEL := RV.out.elem; have xt0 := HEL.1 0 _ rfl; rw [Nat.add_zero] at xt0; have xt2 := HEL.1 2 _ rfl; have xt4 := HEL.1 4 _ rfl; have zt0 := HEL.2.1 0; have zt2 := HEL.2.1 2; have zt4 := HEL.2.1 4; clear HEL))) | ((with_reducible refine q2_ (f := 25) rfl ?_); refine goesL_ (some 18) rfl rfl Try.func25 (by kernel_rfl) rfl #[.agg #[.int .i64 e0, .int .i64 e1, .int .i64 e2, .int .i64 e3, .string e4, .slice A5 p.length c5]] rfl (by simp only [List.map_toArray]; first | done | rfl) ?_; refine (threads_unused.calls e0 e1 e2 e3 e4 A5 c5 p _ _ (HP.out _ HB.out) HCP.out HU.out).mono ?_; rintro e w4 ⟨rfl, hb⟩; refine ⟨_, rfl, ?_⟩; have n0_ := qi_.mk (below_low HB.out (RV.out.size) hb); have n1_ := qi_.mk (RV.out.below hb); have n2_ := qi_.mk (qn_ BK3.out hb); clear HB RV BK3; have HB := n0_; have RV := n1_; have BK3 := n2_; clear n0_ n1_ n2_ hb; (try clear xg0 xg1 xe0 xe1 xe2 xe3 xe4 xe5); (try clear xt0 xt2 xt4 zt0 zt2 zt4); have xg0 := (qb_ RV.out.blk 0).trans rfl; have xg1 := (qb_ RV.out.blk 1).trans rfl; have xe0 := (qb_ BK3.out 0).trans rfl; have xe1 := (qb_ BK3.out 1).trans rfl; have xe2 := (qb_ BK3.out 2).trans rfl; have xe3 := (qb_ BK3.out 3).trans rfl; have xe4 := (qb_ BK3.out 4).trans rfl; have xe5 := (qb_ BK3.out 5).trans rfl; (try (have HEL := RV.out.elem; have xt0 := HEL.1 0 _ rfl; rw [Nat.add_zero] at xt0; have xt2 := HEL.1 2 _ rfl; have xt4 := HEL.1 4 _ rfl; have zt0 := HEL.2.1 0; have zt2 := HEL.2.1 2; have zt4 := HEL.2.1 4; clear HEL))) | ((with_reducible refine q2_ (f := 27) rfl ?_); refine goesL_ (some 40) rfl rfl Try.func27 (by kernel_rfl) rfl #[.pointer (some ⟨g, 0, none⟩), .agg #[.slice A5 p.length c5]] rfl (by simp only [List.map_toArray]; first | done | rfl) ?_; refine (rvPatch.calls k B g _ _ text _ ths _ p A5 c5 _ _ RV.out (fun W hW => HP.out W (HB.out.trans hW)) HCP.out HO.out).mono ?_; rintro e w5 ⟨vt1, vh1, rfl, rv1, hb1⟩; refine ⟨_, rfl, ?_⟩; have n0_ := qi_.mk (HB.out.trans hb1); have n1_ := qi_.mk rv1; clear HB RV BK3 hb1 rv1; have HB := n0_; have RV := n1_; clear n0_ n1_; (try clear xg0 xg1 xe0 xe1 xe2 xe3 xe4 xe5); (try clear xt0 xt2 xt4 zt0 zt2 zt4)) | fail)
        go_ret
        first | exact ⟨_, _, by rfl, (by first | exact RV.out | exact RV.out.drewN _ | exact (RV.out.drewN _).drewN _ | exact ((RV.out.drewN _).drewN _).drewN _), (by repeat (first | (with_reducible first | exact HB.out | apply qa_ | apply qc_) | exact HB.out))⟩ | exact ⟨by rfl, ⟨_, _, (by first | exact RV.out | exact RV.out.drewN _ | exact (RV.out.drewN _).drewN _ | exact ((RV.out.drewN _).drewN _).drewN _)⟩, (by repeat (first | (with_reducible first | exact HB.out | apply qa_ | apply qc_) | exact HB.out))⟩
       ·rw [if_neg p4] at H
        have p4a : (e0 == 4) = false := beq_eq_false_iff_ne.mpr p4
        have p4b : (e0 != 4) = true := bne_iff_ne.mpr p4
        by_cases p2 : e0 = 2
        ·rw [if_pos p2] at H
         have p2a : (e0 == 2) = true := beq_iff_eq.mpr p2
         have p2b : (e0 != 2) = false := bne_eq_false_iff_eq.mpr p2
         have p2A := qi_.mk p2
         clear p2
         obtain ⟨c, hc, H⟩ := Option.bind_eq_some_iff.mp H
         have HTC := qi_.mk hc
         clear hc
         by_cases c0 : c = 0
         ·rw [if_pos c0] at H
          have c0a : (c == 0) = true := beq_iff_eq.mpr c0
          have c0b : (c != 0) = false := bne_eq_false_iff_eq.mpr c0
          have c0A := qi_.mk c0
          clear c0
          have H := Option.some.inj H
          unfold rvTouch at H
          by_cases t1 : e2 < 0
          ·rw [if_pos t1] at H
           have t1a : decide (e2 < 0) = true := decide_eq_true (by omega)
           have t1b : decide (0 > e2) = true := decide_eq_true (by omega)
           simp only [Prod.mk.injEq] at H
           obtain ⟨rfl, rfl, rfl⟩ := H
           go_enter Try.func18, Try.ntmps18
           go_wp2_with (first | ((with_reducible refine gate_dst (N := 3) rfl ?_); refine q1_ ?hg (N := 3) ?hd (cs := #[.int .i64 e0, .int .i64 e1, .int .i64 e2, .int .i64 e3, .string e4, .slice A5 p.length c5]) (t := 43) ?hr ?_; (case hd => rfl); (case hg => rfl); (case hr => first | (go_simp; done) | (go_simp; rfl)); intro g3 hg w3 hbox hb; have n0_ := qi_.mk (below_low HB.out (RV.out.size) hb); have n1_ := qi_.mk (RV.out.below hb); have BK3 := qi_.mk hbox; have GE3 : qi_ (B ≤ g3) := qi_.mk (by rw [hg]; exact RV.out.size); clear HB RV; have HB := n0_; have RV := n1_; clear n0_ n1_ hb hbox hg; (try clear xg0 xg1 xe0 xe1 xe2 xe3 xe4 xe5); (try clear xt0 xt2 xt4 zt0 zt2 zt4); have xg0 := (qb_ RV.out.blk 0).trans rfl; have xg1 := (qb_ RV.out.blk 1).trans rfl; have xe0 := (qb_ BK3.out 0).trans rfl; have xe1 := (qb_ BK3.out 1).trans rfl; have xe2 := (qb_ BK3.out 2).trans rfl; have xe3 := (qb_ BK3.out 3).trans rfl; have xe4 := (qb_ BK3.out 4).trans rfl; have xe5 := (qb_ BK3.out 5).trans rfl; (try (have HEL := RV.out.elem; have xt0 := HEL.1 0 _ rfl; rw [Nat.add_zero] at xt0; have xt2 := HEL.1 2 _ rfl; have xt4 := HEL.1 4 _ rfl; have zt0 := HEL.2.1 0; have zt2 := HEL.2.1 2; have zt4 := HEL.2.1 4; clear HEL))) | ((with_reducible refine q2_ (f := 25) rfl ?_); refine goesL_ (some 18) rfl rfl Try.func25 (by kernel_rfl) rfl #[.agg #[.int .i64 e0, .int .i64 e1, .int .i64 e2, .int .i64 e3, .string e4, .slice A5 p.length c5]] rfl (by simp only [List.map_toArray]; first | done | rfl) ?_; refine (threads_unused.calls e0 e1 e2 e3 e4 A5 c5 p _ _ (HP.out _ HB.out) HCP.out HU.out).mono ?_; rintro e w4 ⟨rfl, hb⟩; refine ⟨_, rfl, ?_⟩; have n0_ := qi_.mk (below_low HB.out (RV.out.size) hb); have n1_ := qi_.mk (RV.out.below hb); have n2_ := qi_.mk (qn_ BK3.out hb); clear HB RV BK3; have HB := n0_; have RV := n1_; have BK3 := n2_; clear n0_ n1_ n2_ hb; (try clear xg0 xg1 xe0 xe1 xe2 xe3 xe4 xe5); (try clear xt0 xt2 xt4 zt0 zt2 zt4); have xg0 := (qb_ RV.out.blk 0).trans rfl; have xg1 := (qb_ RV.out.blk 1).trans rfl; have xe0 := (qb_ BK3.out 0).trans rfl; have xe1 := (qb_ BK3.out 1).trans rfl; have xe2 := (qb_ BK3.out 2).trans rfl; have xe3 := (qb_ BK3.out 3).trans rfl; have xe4 := (qb_ BK3.out 4).trans rfl; have xe5 := (qb_ BK3.out 5).trans rfl; (try (have HEL := RV.out.elem; have xt0 := HEL.1 0 _ rfl; rw [Nat.add_zero] at xt0; have xt2 := HEL.1 2 _ rfl; have xt4 := HEL.1 4 _ rfl; have zt0 := HEL.2.1 0; have zt2 := HEL.2.1 2; have zt4 := HEL.2.1 4; clear HEL))) | ((with_reducible refine q2_ (f := 28) rfl ?_); refine goesL_ (some 46) rfl rfl Try.func28 (by kernel_rfl) rfl #[.string e4] rfl (by simp only [List.map_toArray]; first | done | rfl) ?_; refine (threads_textCode.calls k e4 c _ HTC.out).mono ?_; rintro e w5 ⟨rfl, hb⟩; refine ⟨_, rfl, ?_⟩; have n0_ := qi_.mk (below_low HB.out (RV.out.size) hb); have n1_ := qi_.mk (RV.out.below hb); have n2_ := qi_.mk (qn_ BK3.out hb); clear HB RV BK3; have HB := n0_; have RV := n1_; have BK3 := n2_; clear n0_ n1_ n2_ hb; (try clear xg0 xg1 xe0 xe1 xe2 xe3 xe4 xe5); (try clear xt0 xt2 xt4 zt0 zt2 zt4); have xg0 := (qb_ RV.out.blk 0).trans rfl; have xg1 := (qb_ RV.out.blk 1).trans rfl; have xe0 := (qb_ BK3.out 0).trans rfl; have xe1 := (qb_ BK3.out 1).trans rfl; have xe2 := (qb_ BK3.out 2).trans rfl; have xe3 := (qb_ BK3.out 3).trans rfl; have xe4 := (qb_ BK3.out 4).trans rfl; have xe5 := (qb_ BK3.out 5).trans rfl; (try (have HEL := RV.out.elem; have xt0 := HEL.1 0 _ rfl; rw [Nat.add_zero] at xt0; have xt2 := HEL.1 2 _ rfl; have xt4 := HEL.1 4 _ rfl; have zt0 := HEL.2.1 0; have zt2 := HEL.2.1 2; have zt4 := HEL.2.1 4; clear HEL))) | fail)
           go_quiet (fail)
           go_wp2
           go_ret
           first | exact ⟨_, _, by rfl, (by first | exact RV.out | exact RV.out.drewN _ | exact (RV.out.drewN _).drewN _ | exact ((RV.out.drewN _).drewN _).drewN _), (by repeat (first | (with_reducible first | exact HB.out | apply qa_ | apply qc_) | exact HB.out))⟩ | exact ⟨by rfl, ⟨_, _, (by first | exact RV.out | exact RV.out.drewN _ | exact (RV.out.drewN _).drewN _ | exact ((RV.out.drewN _).drewN _).drewN _)⟩, (by repeat (first | (with_reducible first | exact HB.out | apply qa_ | apply qc_) | exact HB.out))⟩
          ·rw [if_neg t1] at H
           have t1a : decide (e2 < 0) = false := decide_eq_false (by omega)
           have t1b : decide (0 > e2) = false := decide_eq_false (by omega)
           by_cases t2 : (ths.length : Int) ≤ e2
           ·rw [if_pos t2] at H
            have t2a : decide ((ths.length : Int) ≤ e2) = true := decide_eq_true (by omega)
            have t2b : decide (e2 ≥ (ths.length : Int)) = true := decide_eq_true (by omega)
            simp only [Prod.mk.injEq] at H
            obtain ⟨rfl, rfl, rfl⟩ := H
            go_enter Try.func18, Try.ntmps18
            go_wp2_with (first | ((with_reducible refine gate_dst (N := 3) rfl ?_); refine q1_ ?hg (N := 3) ?hd (cs := #[.int .i64 e0, .int .i64 e1, .int .i64 e2, .int .i64 e3, .string e4, .slice A5 p.length c5]) (t := 43) ?hr ?_; (case hd => rfl); (case hg => rfl); (case hr => first | (go_simp; done) | (go_simp; rfl)); intro g3 hg w3 hbox hb; have n0_ := qi_.mk (below_low HB.out (RV.out.size) hb); have n1_ := qi_.mk (RV.out.below hb); have BK3 := qi_.mk hbox; have GE3 : qi_ (B ≤ g3) := qi_.mk (by rw [hg]; exact RV.out.size); clear HB RV; have HB := n0_; have RV := n1_; clear n0_ n1_ hb hbox hg; (try clear xg0 xg1 xe0 xe1 xe2 xe3 xe4 xe5); (try clear xt0 xt2 xt4 zt0 zt2 zt4); have xg0 := (qb_ RV.out.blk 0).trans rfl; have xg1 := (qb_ RV.out.blk 1).trans rfl; have xe0 := (qb_ BK3.out 0).trans rfl; have xe1 := (qb_ BK3.out 1).trans rfl; have xe2 := (qb_ BK3.out 2).trans rfl; have xe3 := (qb_ BK3.out 3).trans rfl; have xe4 := (qb_ BK3.out 4).trans rfl; have xe5 := (qb_ BK3.out 5).trans rfl; (try (have HEL := RV.out.elem; have xt0 := HEL.1 0 _ rfl; rw [Nat.add_zero] at xt0; have xt2 := HEL.1 2 _ rfl; have xt4 := HEL.1 4 _ rfl; have zt0 := HEL.2.1 0; have zt2 := HEL.2.1 2; have zt4 := HEL.2.1 4; clear HEL))) | ((with_reducible refine q2_ (f := 25) rfl ?_); refine goesL_ (some 18) rfl rfl Try.func25 (by kernel_rfl) rfl #[.agg #[.int .i64 e0, .int .i64 e1, .int .i64 e2, .int .i64 e3, .string e4, .slice A5 p.length c5]] rfl (by simp only [List.map_toArray]; first | done | rfl) ?_; refine (threads_unused.calls e0 e1 e2 e3 e4 A5 c5 p _ _ (HP.out _ HB.out) HCP.out HU.out).mono ?_; rintro e w4 ⟨rfl, hb⟩; refine ⟨_, rfl, ?_⟩; have n0_ := qi_.mk (below_low HB.out (RV.out.size) hb); have n1_ := qi_.mk (RV.out.below hb); have n2_ := qi_.mk (qn_ BK3.out hb); clear HB RV BK3; have HB := n0_; have RV := n1_; have BK3 := n2_; clear n0_ n1_ n2_ hb; (try clear xg0 xg1 xe0 xe1 xe2 xe3 xe4 xe5); (try clear xt0 xt2 xt4 zt0 zt2 zt4); have xg0 := (qb_ RV.out.blk 0).trans rfl; have xg1 := (qb_ RV.out.blk 1).trans rfl; have xe0 := (qb_ BK3.out 0).trans rfl; have xe1 := (qb_ BK3.out 1).trans rfl; have xe2 := (qb_ BK3.out 2).trans rfl; have xe3 := (qb_ BK3.out 3).trans rfl; have xe4 := (qb_ BK3.out 4).trans rfl; have xe5 := (qb_ BK3.out 5).trans rfl; (try (have HEL := RV.out.elem; have xt0 := HEL.1 0 _ rfl; rw [Nat.add_zero] at xt0; have xt2 := HEL.1 2 _ rfl; have xt4 := HEL.1 4 _ rfl; have zt0 := HEL.2.1 0; have zt2 := HEL.2.1 2; have zt4 := HEL.2.1 4; clear HEL))) | ((with_reducible refine q2_ (f := 28) rfl ?_); refine goesL_ (some 46) rfl rfl Try.func28 (by kernel_rfl) rfl #[.string e4] rfl (by simp only [List.map_toArray]; first | done | rfl) ?_; refine (threads_textCode.calls k e4 c _ HTC.out).mono ?_; rintro e w5 ⟨rfl, hb⟩; refine ⟨_, rfl, ?_⟩; have n0_ := qi_.mk (below_low HB.out (RV.out.size) hb); have n1_ := qi_.mk (RV.out.below hb); have n2_ := qi_.mk (qn_ BK3.out hb); clear HB RV BK3; have HB := n0_; have RV := n1_; have BK3 := n2_; clear n0_ n1_ n2_ hb; (try clear xg0 xg1 xe0 xe1 xe2 xe3 xe4 xe5); (try clear xt0 xt2 xt4 zt0 zt2 zt4); have xg0 := (qb_ RV.out.blk 0).trans rfl; have xg1 := (qb_ RV.out.blk 1).trans rfl; have xe0 := (qb_ BK3.out 0).trans rfl; have xe1 := (qb_ BK3.out 1).trans rfl; have xe2 := (qb_ BK3.out 2).trans rfl; have xe3 := (qb_ BK3.out 3).trans rfl; have xe4 := (qb_ BK3.out 4).trans rfl; have xe5 := (qb_ BK3.out 5).trans rfl; (try (have HEL := RV.out.elem; have xt0 := HEL.1 0 _ rfl; rw [Nat.add_zero] at xt0; have xt2 := HEL.1 2 _ rfl; have xt4 := HEL.1 4 _ rfl; have zt0 := HEL.2.1 0; have zt2 := HEL.2.1 2; have zt4 := HEL.2.1 4; clear HEL))) | fail)
            go_quiet (fail)
            go_wp2
            go_ret
            first | exact ⟨_, _, by rfl, (by first | exact RV.out | exact RV.out.drewN _ | exact (RV.out.drewN _).drewN _ | exact ((RV.out.drewN _).drewN _).drewN _), (by repeat (first | (with_reducible first | exact HB.out | apply qa_ | apply qc_) | exact HB.out))⟩ | exact ⟨by rfl, ⟨_, _, (by first | exact RV.out | exact RV.out.drewN _ | exact (RV.out.drewN _).drewN _ | exact ((RV.out.drewN _).drewN _).drewN _)⟩, (by repeat (first | (with_reducible first | exact HB.out | apply qa_ | apply qc_) | exact HB.out))⟩
           ·rw [if_neg t2] at H
            obtain ⟨dn, t, ts, rfl, rfl⟩ : ∃ dn t ts, ths = dn ++ t :: ts ∧ e2 = (dn.length : Int) := split_at ths e2 (by omega) (by omega)
            rw [Int.toNat_natCast, getD_mid] at H
            have t2a : decide (((dn ++ t :: ts).length : Int) ≤ (dn.length : Int)) = false := decide_eq_false t2
            have t2c : (0 : Int) ≤ (dn.length : Int) := by omega
            have t2d : (dn.length : Int) < ((dn ++ t :: ts).length : Int) := by omega
            obtain ⟨gh, rfl⟩ : ∃ gh, Ah = some ⟨gh, 0, none⟩ := by
             obtain ⟨gh, cap_, hv_, _⟩ := Kd.R_form RV.out.th (by rw [List.length_append, List.length_cons]; omega)
             injection hv_ with hA_
             exact ⟨gh, hA_⟩
            have HBE := qi_.mk RV.out.elem.2.2
            rw [if_pos p2A.out, set_mid] at H
            simp only [Prod.mk.injEq] at H
            obtain ⟨rfl, rfl, rfl⟩ := H
            go_enter Try.func18, Try.ntmps18
            go_wp2_with (first | ((with_reducible refine gate_dst (N := 3) rfl ?_); refine q1_ ?hg (N := 3) ?hd (cs := #[.int .i64 e0, .int .i64 e1, .int .i64 (dn.length : Int), .int .i64 e3, .string e4, .slice A5 p.length c5]) (t := 43) ?hr ?_; (case hd => rfl); (case hg => rfl); (case hr => first | (go_simp; done) | (go_simp; rfl)); intro g3 hg w3 hbox hb; have n0_ := qi_.mk (below_low HB.out (RV.out.size) hb); have n1_ := qi_.mk (RV.out.below hb); have BK3 := qi_.mk hbox; have GE3 : qi_ (B ≤ g3) := qi_.mk (by rw [hg]; exact RV.out.size); clear HB RV; have HB := n0_; have RV := n1_; clear n0_ n1_ hb hbox hg; (try clear xg0 xg1 xe0 xe1 xe2 xe3 xe4 xe5); (try clear xt0 xt2 xt4 zt0 zt2 zt4); have xg0 := (qb_ RV.out.blk 0).trans rfl; have xg1 := (qb_ RV.out.blk 1).trans rfl; have xe0 := (qb_ BK3.out 0).trans rfl; have xe1 := (qb_ BK3.out 1).trans rfl; have xe2 := (qb_ BK3.out 2).trans rfl; have xe3 := (qb_ BK3.out 3).trans rfl; have xe4 := (qb_ BK3.out 4).trans rfl; have xe5 := (qb_ BK3.out 5).trans rfl; (try (have HEL := RV.out.elem; have xt0 := HEL.1 0 _ rfl; rw [Nat.add_zero] at xt0; have xt2 := HEL.1 2 _ rfl; have xt4 := HEL.1 4 _ rfl; have zt0 := HEL.2.1 0; have zt2 := HEL.2.1 2; have zt4 := HEL.2.1 4; clear HEL))) | ((with_reducible refine q2_ (f := 25) rfl ?_); refine goesL_ (some 18) rfl rfl Try.func25 (by kernel_rfl) rfl #[.agg #[.int .i64 e0, .int .i64 e1, .int .i64 (dn.length : Int), .int .i64 e3, .string e4, .slice A5 p.length c5]] rfl (by simp only [List.map_toArray]; first | done | rfl) ?_; refine (threads_unused.calls e0 e1 (dn.length : Int) e3 e4 A5 c5 p _ _ (HP.out _ HB.out) HCP.out HU.out).mono ?_; rintro e w4 ⟨rfl, hb⟩; refine ⟨_, rfl, ?_⟩; have n0_ := qi_.mk (below_low HB.out (RV.out.size) hb); have n1_ := qi_.mk (RV.out.below hb); have n2_ := qi_.mk (qn_ BK3.out hb); clear HB RV BK3; have HB := n0_; have RV := n1_; have BK3 := n2_; clear n0_ n1_ n2_ hb; (try clear xg0 xg1 xe0 xe1 xe2 xe3 xe4 xe5); (try clear xt0 xt2 xt4 zt0 zt2 zt4); have xg0 := (qb_ RV.out.blk 0).trans rfl; have xg1 := (qb_ RV.out.blk 1).trans rfl; have xe0 := (qb_ BK3.out 0).trans rfl; have xe1 := (qb_ BK3.out 1).trans rfl; have xe2 := (qb_ BK3.out 2).trans rfl; have xe3 := (qb_ BK3.out 3).trans rfl; have xe4 := (qb_ BK3.out 4).trans rfl; have xe5 := (qb_ BK3.out 5).trans rfl; (try (have HEL := RV.out.elem; have xt0 := HEL.1 0 _ rfl; rw [Nat.add_zero] at xt0; have xt2 := HEL.1 2 _ rfl; have xt4 := HEL.1 4 _ rfl; have zt0 := HEL.2.1 0; have zt2 := HEL.2.1 2; have zt4 := HEL.2.1 4; clear HEL))) | ((with_reducible refine q2_ (f := 28) rfl ?_); refine goesL_ (some 46) rfl rfl Try.func28 (by kernel_rfl) rfl #[.string e4] rfl (by simp only [List.map_toArray]; first | done | rfl) ?_; refine (threads_textCode.calls k e4 c _ HTC.out).mono ?_; rintro e w5 ⟨rfl, hb⟩; refine ⟨_, rfl, ?_⟩; have n0_ := qi_.mk (below_low HB.out (RV.out.size) hb); have n1_ := qi_.mk (RV.out.below hb); have n2_ := qi_.mk (qn_ BK3.out hb); clear HB RV BK3; have HB := n0_; have RV := n1_; have BK3 := n2_; clear n0_ n1_ n2_ hb; (try clear xg0 xg1 xe0 xe1 xe2 xe3 xe4 xe5); (try clear xt0 xt2 xt4 zt0 zt2 zt4); have xg0 := (qb_ RV.out.blk 0).trans rfl; have xg1 := (qb_ RV.out.blk 1).trans rfl; have xe0 := (qb_ BK3.out 0).trans rfl; have xe1 := (qb_ BK3.out 1).trans rfl; have xe2 := (qb_ BK3.out 2).trans rfl; have xe3 := (qb_ BK3.out 3).trans rfl; have xe4 := (qb_ BK3.out 4).trans rfl; have xe5 := (qb_ BK3.out 5).trans rfl; (try (have HEL := RV.out.elem; have xt0 := HEL.1 0 _ rfl; rw [Nat.add_zero] at xt0; have xt2 := HEL.1 2 _ rfl; have xt4 := HEL.1 4 _ rfl; have zt0 := HEL.2.1 0; have zt2 := HEL.2.1 2; have zt4 := HEL.2.1 4; clear HEL))) | fail)
            go_quiet (fail)
            go_wp2
            go_quiet (fail)
            go_wp2
            go_ret
            first | exact ⟨by rfl, ⟨_, _, Rv.put_elem (t := ⟨t.f0, t.f1, wrap64 (t.f2 + 1), t.f3, t.f4⟩) ⟨t.f0, t.f1, wrap64 (t.f2 + 1), t.f3, false⟩ 4 (.bool false) (by decide) rfl (Rv.put_elem (t := t) ⟨t.f0, t.f1, wrap64 (t.f2 + 1), t.f3, t.f4⟩ 2 (.int .i64 (wrap64 (t.f2 + 1))) (by decide) rfl (by first | exact RV.out | exact RV.out.drewN _ | exact (RV.out.drewN _).drewN _ | exact ((RV.out.drewN _).drewN _).drewN _))⟩, below_put (below_put (by repeat (first | (with_reducible first | exact HB.out | apply qa_ | apply qc_) | exact HB.out)) HBE.out _ _) HBE.out _ _⟩ | exact ⟨_, _, by rfl, Rv.put_elem (t := ⟨t.f0, t.f1, wrap64 (t.f2 + 1), t.f3, t.f4⟩) ⟨t.f0, t.f1, wrap64 (t.f2 + 1), t.f3, false⟩ 4 (.bool false) (by decide) rfl (Rv.put_elem (t := t) ⟨t.f0, t.f1, wrap64 (t.f2 + 1), t.f3, t.f4⟩ 2 (.int .i64 (wrap64 (t.f2 + 1))) (by decide) rfl (by first | exact RV.out | exact RV.out.drewN _ | exact (RV.out.drewN _).drewN _ | exact ((RV.out.drewN _).drewN _).drewN _)), below_put (below_put (by repeat (first | (with_reducible first | exact HB.out | apply qa_ | apply qc_) | exact HB.out)) HBE.out _ _) HBE.out _ _⟩
         ·rw [if_neg c0] at H
          have c0a : (c == 0) = false := beq_eq_false_iff_ne.mpr c0
          have c0b : (c != 0) = true := bne_iff_ne.mpr c0
          simp only [Option.some.injEq, Prod.mk.injEq] at H
          obtain ⟨rfl, rfl, rfl⟩ := H
          go_enter Try.func18, Try.ntmps18
          go_wp2_with (first | ((with_reducible refine gate_dst (N := 3) rfl ?_); refine q1_ ?hg (N := 3) ?hd (cs := #[.int .i64 e0, .int .i64 e1, .int .i64 e2, .int .i64 e3, .string e4, .slice A5 p.length c5]) (t := 43) ?hr ?_; (case hd => rfl); (case hg => rfl); (case hr => first | (go_simp; done) | (go_simp; rfl)); intro g3 hg w3 hbox hb; have n0_ := qi_.mk (below_low HB.out (RV.out.size) hb); have n1_ := qi_.mk (RV.out.below hb); have BK3 := qi_.mk hbox; have GE3 : qi_ (B ≤ g3) := qi_.mk (by rw [hg]; exact RV.out.size); clear HB RV; have HB := n0_; have RV := n1_; clear n0_ n1_ hb hbox hg; (try clear xg0 xg1 xe0 xe1 xe2 xe3 xe4 xe5); (try clear xt0 xt2 xt4 zt0 zt2 zt4); have xg0 := (qb_ RV.out.blk 0).trans rfl; have xg1 := (qb_ RV.out.blk 1).trans rfl; have xe0 := (qb_ BK3.out 0).trans rfl; have xe1 := (qb_ BK3.out 1).trans rfl; have xe2 := (qb_ BK3.out 2).trans rfl; have xe3 := (qb_ BK3.out 3).trans rfl; have xe4 := (qb_ BK3.out 4).trans rfl; have xe5 := (qb_ BK3.out 5).trans rfl; (try (have HEL := RV.out.elem; have xt0 := HEL.1 0 _ rfl; rw [Nat.add_zero] at xt0; have xt2 := HEL.1 2 _ rfl; have xt4 := HEL.1 4 _ rfl; have zt0 := HEL.2.1 0; have zt2 := HEL.2.1 2; have zt4 := HEL.2.1 4; clear HEL))) | ((with_reducible refine q2_ (f := 25) rfl ?_); refine goesL_ (some 18) rfl rfl Try.func25 (by kernel_rfl) rfl #[.agg #[.int .i64 e0, .int .i64 e1, .int .i64 e2, .int .i64 e3, .string e4, .slice A5 p.length c5]] rfl (by simp only [List.map_toArray]; first | done | rfl) ?_; refine (threads_unused.calls e0 e1 e2 e3 e4 A5 c5 p _ _ (HP.out _ HB.out) HCP.out HU.out).mono ?_; rintro e w4 ⟨rfl, hb⟩; refine ⟨_, rfl, ?_⟩; have n0_ := qi_.mk (below_low HB.out (RV.out.size) hb); have n1_ := qi_.mk (RV.out.below hb); have n2_ := qi_.mk (qn_ BK3.out hb); clear HB RV BK3; have HB := n0_; have RV := n1_; have BK3 := n2_; clear n0_ n1_ n2_ hb; (try clear xg0 xg1 xe0 xe1 xe2 xe3 xe4 xe5); (try clear xt0 xt2 xt4 zt0 zt2 zt4); have xg0 := (qb_ RV.out.blk 0).trans rfl; have xg1 := (qb_ RV.out.blk 1).trans rfl; have xe0 := (qb_ BK3.out 0).trans rfl; have xe1 := (qb_ BK3.out 1).trans rfl; have xe2 := (qb_ BK3.out 2).trans rfl; have xe3 := (qb_ BK3.out 3).trans rfl; have xe4 := (qb_ BK3.out 4).trans rfl; have xe5 := (qb_ BK3.out 5).trans rfl; (try (have HEL := RV.out.elem; have xt0 := HEL.1 0 _ rfl; rw [Nat.add_zero] at xt0; have xt2 := HEL.1 2 _ rfl; have xt4 := HEL.1 4 _ rfl; have zt0 := HEL.2.1 0; have zt2 := HEL.2.1 2; have zt4 := HEL.2.1 4; clear HEL))) | ((with_reducible refine q2_ (f := 28) rfl ?_); refine goesL_ (some 46) rfl rfl Try.func28 (by kernel_rfl) rfl #[.string e4] rfl (by simp only [List.map_toArray]; first | done | rfl) ?_; refine (threads_textCode.calls k e4 c _ HTC.out).mono ?_; rintro e w5 ⟨rfl, hb⟩; refine ⟨_, rfl, ?_⟩; have n0_ := qi_.mk (below_low HB.out (RV.out.size) hb); have n1_ := qi_.mk (RV.out.below hb); have n2_ := qi_.mk (qn_ BK3.out hb); clear HB RV BK3; have HB := n0_; have RV := n1_; have BK3 := n2_; clear n0_ n1_ n2_ hb; (try clear xg0 xg1 xe0 xe1 xe2 xe3 xe4 xe5); (try clear xt0 xt2 xt4 zt0 zt2 zt4); have xg0 := (qb_ RV.out.blk 0).trans rfl; have xg1 := (qb_ RV.out.blk 1).trans rfl; have xe0 := (qb_ BK3.out 0).trans rfl; have xe1 := (qb_ BK3.out 1).trans rfl; have xe2 := (qb_ BK3.out 2).trans rfl; have xe3 := (qb_ BK3.out 3).trans rfl; have xe4 := (qb_ BK3.out 4).trans rfl; have xe5 := (qb_ BK3.out 5).trans rfl; (try (have HEL := RV.out.elem; have xt0 := HEL.1 0 _ rfl; rw [Nat.add_zero] at xt0; have xt2 := HEL.1 2 _ rfl; have xt4 := HEL.1 4 _ rfl; have zt0 := HEL.2.1 0; have zt2 := HEL.2.1 2; have zt4 := HEL.2.1 4; clear HEL))) | fail)
          go_ret
          first | exact ⟨_, _, by rfl, (by first | exact RV.out | exact RV.out.drewN _ | exact (RV.out.drewN _).drewN _ | exact ((RV.out.drewN _).drewN _).drewN _), (by repeat (first | (with_reducible first | exact HB.out | apply qa_ | apply qc_) | exact HB.out))⟩ | exact ⟨by rfl, ⟨_, _, (by first | exact RV.out | exact RV.out.drewN _ | exact (RV.out.drewN _).drewN _ | exact ((RV.out.drewN _).drewN _).drewN _)⟩, (by repeat (first | (with_reducible first | exact HB.out | apply qa_ | apply qc_) | exact HB.out))⟩
        ·rw [if_neg p2] at H
         have p2a : (e0 == 2) = false := beq_eq_false_iff_ne.mpr p2
         have p2b : (e0 != 2) = true := bne_iff_ne.mpr p2
         have H := Option.some.inj H
         unfold rvTouch at H
         by_cases t1 : e2 < 0
         ·rw [if_pos t1] at H
          have t1a : decide (e2 < 0) = true := decide_eq_true (by omega)
          have t1b : decide (0 > e2) = true := decide_eq_true (by omega)
          simp only [Prod.mk.injEq] at H
          obtain ⟨rfl, rfl, rfl⟩ := H
          go_enter Try.func18, Try.ntmps18
          go_wp2_with (first | ((with_reducible refine gate_dst (N := 3) rfl ?_); refine q1_ ?hg (N := 3) ?hd (cs := #[.int .i64 e0, .int .i64 e1, .int .i64 e2, .int .i64 e3, .string e4, .slice A5 p.length c5]) (t := 43) ?hr ?_; (case hd => rfl); (case hg => rfl); (case hr => first | (go_simp; done) | (go_simp; rfl)); intro g3 hg w3 hbox hb; have n0_ := qi_.mk (below_low HB.out (RV.out.size) hb); have n1_ := qi_.mk (RV.out.below hb); have BK3 := qi_.mk hbox; have GE3 : qi_ (B ≤ g3) := qi_.mk (by rw [hg]; exact RV.out.size); clear HB RV; have HB := n0_; have RV := n1_; clear n0_ n1_ hb hbox hg; (try clear xg0 xg1 xe0 xe1 xe2 xe3 xe4 xe5); (try clear xt0 xt2 xt4 zt0 zt2 zt4); have xg0 := (qb_ RV.out.blk 0).trans rfl; have xg1 := (qb_ RV.out.blk 1).trans rfl; have xe0 := (qb_ BK3.out 0).trans rfl; have xe1 := (qb_ BK3.out 1).trans rfl; have xe2 := (qb_ BK3.out 2).trans rfl; have xe3 := (qb_ BK3.out 3).trans rfl; have xe4 := (qb_ BK3.out 4).trans rfl; have xe5 := (qb_ BK3.out 5).trans rfl; (try (have HEL := RV.out.elem; have xt0 := HEL.1 0 _ rfl; rw [Nat.add_zero] at xt0; have xt2 := HEL.1 2 _ rfl; have xt4 := HEL.1 4 _ rfl; have zt0 := HEL.2.1 0; have zt2 := HEL.2.1 2; have zt4 := HEL.2.1 4; clear HEL))) | ((with_reducible refine q2_ (f := 25) rfl ?_); refine goesL_ (some 18) rfl rfl Try.func25 (by kernel_rfl) rfl #[.agg #[.int .i64 e0, .int .i64 e1, .int .i64 e2, .int .i64 e3, .string e4, .slice A5 p.length c5]] rfl (by simp only [List.map_toArray]; first | done | rfl) ?_; refine (threads_unused.calls e0 e1 e2 e3 e4 A5 c5 p _ _ (HP.out _ HB.out) HCP.out HU.out).mono ?_; rintro e w4 ⟨rfl, hb⟩; refine ⟨_, rfl, ?_⟩; have n0_ := qi_.mk (below_low HB.out (RV.out.size) hb); have n1_ := qi_.mk (RV.out.below hb); have n2_ := qi_.mk (qn_ BK3.out hb); clear HB RV BK3; have HB := n0_; have RV := n1_; have BK3 := n2_; clear n0_ n1_ n2_ hb; (try clear xg0 xg1 xe0 xe1 xe2 xe3 xe4 xe5); (try clear xt0 xt2 xt4 zt0 zt2 zt4); have xg0 := (qb_ RV.out.blk 0).trans rfl; have xg1 := (qb_ RV.out.blk 1).trans rfl; have xe0 := (qb_ BK3.out 0).trans rfl; have xe1 := (qb_ BK3.out 1).trans rfl; have xe2 := (qb_ BK3.out 2).trans rfl; have xe3 := (qb_ BK3.out 3).trans rfl; have xe4 := (qb_ BK3.out 4).trans rfl; have xe5 := (qb_ BK3.out 5).trans rfl; (try (have HEL := RV.out.elem; have xt0 := HEL.1 0 _ rfl; rw [Nat.add_zero] at xt0; have xt2 := HEL.1 2 _ rfl; have xt4 := HEL.1 4 _ rfl; have zt0 := HEL.2.1 0; have zt2 := HEL.2.1 2; have zt4 := HEL.2.1 4; clear HEL))) | fail)
          go_quiet (fail)
          go_wp2
          go_ret
          first | exact ⟨_, _, by rfl, (by first | exact RV.out | exact RV.out.drewN _ | exact (RV.out.drewN _).drewN _ | exact ((RV.out.drewN _).drewN _).drewN _), (by repeat (first | (with_reducible first | exact HB.out | apply qa_ | apply qc_) | exact HB.out))⟩ | exact ⟨by rfl, ⟨_, _, (by first | exact RV.out | exact RV.out.drewN _ | exact (RV.out.drewN _).drewN _ | exact ((RV.out.drewN _).drewN _).drewN _)⟩, (by repeat (first | (with_reducible first | exact HB.out | apply qa_ | apply qc_) | exact HB.out))⟩
         ·rw [if_neg t1] at H
          have t1a : decide (e2 < 0) = false := decide_eq_false (by omega)
          have t1b : decide (0 > e2) = false := decide_eq_false (by omega)
          by_cases t2 : (ths.length : Int) ≤ e2
          ·rw [if_pos t2] at H
           have t2a : decide ((ths.length : Int) ≤ e2) = true := decide_eq_true (by omega)
           have t2b : decide (e2 ≥ (ths.length : Int)) = true := decide_eq_true (by omega)
           simp only [Prod.mk.injEq] at H
           obtain ⟨rfl, rfl, rfl⟩ := H
           go_enter Try.func18, Try.ntmps18
           go_wp2_with (first | ((with_reducible refine gate_dst (N := 3) rfl ?_); refine q1_ ?hg (N := 3) ?hd (cs := #[.int .i64 e0, .int .i64 e1, .int .i64 e2, .int .i64 e3, .string e4, .slice A5 p.length c5]) (t := 43) ?hr ?_; (case hd => rfl); (case hg => rfl); (case hr => first | (go_simp; done) | (go_simp; rfl)); intro g3 hg w3 hbox hb; have n0_ := qi_.mk (below_low HB.out (RV.out.size) hb); have n1_ := qi_.mk (RV.out.below hb); have BK3 := qi_.mk hbox; have GE3 : qi_ (B ≤ g3) := qi_.mk (by rw [hg]; exact RV.out.size); clear HB RV; have HB := n0_; have RV := n1_; clear n0_ n1_ hb hbox hg; (try clear xg0 xg1 xe0 xe1 xe2 xe3 xe4 xe5); (try clear xt0 xt2 xt4 zt0 zt2 zt4); have xg0 := (qb_ RV.out.blk 0).trans rfl; have xg1 := (qb_ RV.out.blk 1).trans rfl; have xe0 := (qb_ BK3.out 0).trans rfl; have xe1 := (qb_ BK3.out 1).trans rfl; have xe2 := (qb_ BK3.out 2).trans rfl; have xe3 := (qb_ BK3.out 3).trans rfl; have xe4 := (qb_ BK3.out 4).trans rfl; have xe5 := (qb_ BK3.out 5).trans rfl; (try (have HEL := RV.out.elem; have xt0 := HEL.1 0 _ rfl; rw [Nat.add_zero] at xt0; have xt2 := HEL.1 2 _ rfl; have xt4 := HEL.1 4 _ rfl; have zt0 := HEL.2.1 0; have zt2 := HEL.2.1 2; have zt4 := HEL.2.1 4; clear HEL))) | ((with_reducible refine q2_ (f := 25) rfl ?_); refine goesL_ (some 18) rfl rfl Try.func25 (by kernel_rfl) rfl #[.agg #[.int .i64 e0, .int .i64 e1, .int .i64 e2, .int .i64 e3, .string e4, .slice A5 p.length c5]] rfl (by simp only [List.map_toArray]; first | done | rfl) ?_; refine (threads_unused.calls e0 e1 e2 e3 e4 A5 c5 p _ _ (HP.out _ HB.out) HCP.out HU.out).mono ?_; rintro e w4 ⟨rfl, hb⟩; refine ⟨_, rfl, ?_⟩; have n0_ := qi_.mk (below_low HB.out (RV.out.size) hb); have n1_ := qi_.mk (RV.out.below hb); have n2_ := qi_.mk (qn_ BK3.out hb); clear HB RV BK3; have HB := n0_; have RV := n1_; have BK3 := n2_; clear n0_ n1_ n2_ hb; (try clear xg0 xg1 xe0 xe1 xe2 xe3 xe4 xe5); (try clear xt0 xt2 xt4 zt0 zt2 zt4); have xg0 := (qb_ RV.out.blk 0).trans rfl; have xg1 := (qb_ RV.out.blk 1).trans rfl; have xe0 := (qb_ BK3.out 0).trans rfl; have xe1 := (qb_ BK3.out 1).trans rfl; have xe2 := (qb_ BK3.out 2).trans rfl; have xe3 := (qb_ BK3.out 3).trans rfl; have xe4 := (qb_ BK3.out 4).trans rfl; have xe5 := (qb_ BK3.out 5).trans rfl; (try (have HEL := RV.out.elem; have xt0 := HEL.1 0 _ rfl; rw [Nat.add_zero] at xt0; have xt2 := HEL.1 2 _ rfl; have xt4 := HEL.1 4 _ rfl; have zt0 := HEL.2.1 0; have zt2 := HEL.2.1 2; have zt4 := HEL.2.1 4; clear HEL))) | fail)
           go_quiet (fail)
           go_wp2
           go_ret
           first | exact ⟨_, _, by rfl, (by first | exact RV.out | exact RV.out.drewN _ | exact (RV.out.drewN _).drewN _ | exact ((RV.out.drewN _).drewN _).drewN _), (by repeat (first | (with_reducible first | exact HB.out | apply qa_ | apply qc_) | exact HB.out))⟩ | exact ⟨by rfl, ⟨_, _, (by first | exact RV.out | exact RV.out.drewN _ | exact (RV.out.drewN _).drewN _ | exact ((RV.out.drewN _).drewN _).drewN _)⟩, (by repeat (first | (with_reducible first | exact HB.out | apply qa_ | apply qc_) | exact HB.out))⟩
          ·rw [if_neg t2] at H
           obtain ⟨dn, t, ts, rfl, rfl⟩ : ∃ dn t ts, ths = dn ++ t :: ts ∧ e2 = (dn.length : Int) := split_at ths e2 (by omega) (by omega)
           rw [Int.toNat_natCast, getD_mid] at H
           have t2a : decide (((dn ++ t :: ts).length : Int) ≤ (dn.length : Int)) = false := decide_eq_false t2
           have t2c : (0 : Int) ≤ (dn.length : Int) := by omega
           have t2d : (dn.length : Int) < ((dn ++ t :: ts).length : Int) := by omega
           obtain ⟨gh, rfl⟩ : ∃ gh, Ah = some ⟨gh, 0, none⟩ := by
            obtain ⟨gh, cap_, hv_, _⟩ := Kd.R_form RV.out.th (by rw [List.length_append, List.length_cons]; omega)
            injection hv_ with hA_
            exact ⟨gh, hA_⟩
           have HBE := qi_.mk RV.out.elem.2.2
           rw [if_neg p2] at H
           by_cases t3 : t.f4 = true
           ·rw [if_pos t3] at H
            simp only [Prod.mk.injEq] at H
            obtain ⟨rfl, rfl, rfl⟩ := H
            go_enter Try.func18, Try.ntmps18
            go_wp2_with (first | ((with_reducible refine gate_dst (N := 3) rfl ?_); refine q1_ ?hg (N := 3) ?hd (cs := #[.int .i64 e0, .int .i64 e1, .int .i64 (dn.length : Int), .int .i64 e3, .string e4, .slice A5 p.length c5]) (t := 43) ?hr ?_; (case hd => rfl); (case hg => rfl); (case hr => first | (go_simp; done) | (go_simp; rfl)); intro g3 hg w3 hbox hb; have n0_ := qi_.mk (below_low HB.out (RV.out.size) hb); have n1_ := qi_.mk (RV.out.below hb); have BK3 := qi_.mk hbox; have GE3 : qi_ (B ≤ g3) := qi_.mk (by rw [hg]; exact RV.out.size); clear HB RV; have HB := n0_; have RV := n1_; clear n0_ n1_ hb hbox hg; (try clear xg0 xg1 xe0 xe1 xe2 xe3 xe4 xe5); (try clear xt0 xt2 xt4 zt0 zt2 zt4); have xg0 := (qb_ RV.out.blk 0).trans rfl; have xg1 := (qb_ RV.out.blk 1).trans rfl; have xe0 := (qb_ BK3.out 0).trans rfl; have xe1 := (qb_ BK3.out 1).trans rfl; have xe2 := (qb_ BK3.out 2).trans rfl; have xe3 := (qb_ BK3.out 3).trans rfl; have xe4 := (qb_ BK3.out 4).trans rfl; have xe5 := (qb_ BK3.out 5).trans rfl; (try (have HEL := RV.out.elem; have xt0 := HEL.1 0 _ rfl; rw [Nat.add_zero] at xt0; have xt2 := HEL.1 2 _ rfl; have xt4 := HEL.1 4 _ rfl; have zt0 := HEL.2.1 0; have zt2 := HEL.2.1 2; have zt4 := HEL.2.1 4; clear HEL))) | ((with_reducible refine q2_ (f := 25) rfl ?_); refine goesL_ (some 18) rfl rfl Try.func25 (by kernel_rfl) rfl #[.agg #[.int .i64 e0, .int .i64 e1, .int .i64 (dn.length : Int), .int .i64 e3, .string e4, .slice A5 p.length c5]] rfl (by simp only [List.map_toArray]; first | done | rfl) ?_; refine (threads_unused.calls e0 e1 (dn.length : Int) e3 e4 A5 c5 p _ _ (HP.out _ HB.out) HCP.out HU.out).mono ?_; rintro e w4 ⟨rfl, hb⟩; refine ⟨_, rfl, ?_⟩; have n0_ := qi_.mk (below_low HB.out (RV.out.size) hb); have n1_ := qi_.mk (RV.out.below hb); have n2_ := qi_.mk (qn_ BK3.out hb); clear HB RV BK3; have HB := n0_; have RV := n1_; have BK3 := n2_; clear n0_ n1_ n2_ hb; (try clear xg0 xg1 xe0 xe1 xe2 xe3 xe4 xe5); (try clear xt0 xt2 xt4 zt0 zt2 zt4); have xg0 := (qb_ RV.out.blk 0).trans rfl; have xg1 := (qb_ RV.out.blk 1).trans rfl; have xe0 := (qb_ BK3.out 0).trans rfl; have xe1 := (qb_ BK3.out 1).trans rfl; have xe2 := (qb_ BK3.out 2).trans rfl; have xe3 := (qb_ BK3.out 3).trans rfl; have xe4 := (qb_ BK3.out 4).trans rfl; have xe5 := (qb_ BK3.out 5).trans rfl; (try (have HEL := RV.out.elem; have xt0 := HEL.1 0 _ rfl; rw [Nat.add_zero] at xt0; have xt2 := HEL.1 2 _ rfl; have xt4 := HEL.1 4 _ rfl; have zt0 := HEL.2.1 0; have zt2 := HEL.2.1 2; have zt4 := HEL.2.1 4; clear HEL))) | fail)
            go_quiet (fail)
            go_wp2
            go_quiet (fail)
            go_wp2
            go_ret
            first | exact ⟨_, _, by rfl, (by first | exact RV.out | exact RV.out.drewN _ | exact (RV.out.drewN _).drewN _ | exact ((RV.out.drewN _).drewN _).drewN _), (by repeat (first | (with_reducible first | exact HB.out | apply qa_ | apply qc_) | exact HB.out))⟩ | exact ⟨by rfl, ⟨_, _, (by first | exact RV.out | exact RV.out.drewN _ | exact (RV.out.drewN _).drewN _ | exact ((RV.out.drewN _).drewN _).drewN _)⟩, (by repeat (first | (with_reducible first | exact HB.out | apply qa_ | apply qc_) | exact HB.out))⟩
           ·rw [if_neg t3] at H
            have t3b : t.f4 = false := by simpa using t3
            by_cases t4 : t.f0 = e1
            ·rw [if_pos t4] at H
             have t4a : (t.f0 == e1) = true := beq_iff_eq.mpr t4
             have t4b : (t.f0 != e1) = false := bne_eq_false_iff_eq.mpr t4
             have t4A := qi_.mk t4
             clear t4
             rw [set_mid] at H
             simp only [Prod.mk.injEq] at H
             obtain ⟨rfl, rfl, rfl⟩ := H
             go_enter Try.func18, Try.ntmps18
             go_wp2_with (first | ((with_reducible refine gate_dst (N := 3) rfl ?_); refine q1_ ?hg (N := 3) ?hd (cs := #[.int .i64 e0, .int .i64 e1, .int .i64 (dn.length : Int), .int .i64 e3, .string e4, .slice A5 p.length c5]) (t := 43) ?hr ?_; (case hd => rfl); (case hg => rfl); (case hr => first | (go_simp; done) | (go_simp; rfl)); intro g3 hg w3 hbox hb; have n0_ := qi_.mk (below_low HB.out (RV.out.size) hb); have n1_ := qi_.mk (RV.out.below hb); have BK3 := qi_.mk hbox; have GE3 : qi_ (B ≤ g3) := qi_.mk (by rw [hg]; exact RV.out.size); clear HB RV; have HB := n0_; have RV := n1_; clear n0_ n1_ hb hbox hg; (try clear xg0 xg1 xe0 xe1 xe2 xe3 xe4 xe5); (try clear xt0 xt2 xt4 zt0 zt2 zt4); have xg0 := (qb_ RV.out.blk 0).trans rfl; have xg1 := (qb_ RV.out.blk 1).trans rfl; have xe0 := (qb_ BK3.out 0).trans rfl; have xe1 := (qb_ BK3.out 1).trans rfl; have xe2 := (qb_ BK3.out 2).trans rfl; have xe3 := (qb_ BK3.out 3).trans rfl; have xe4 := (qb_ BK3.out 4).trans rfl; have xe5 := (qb_ BK3.out 5).trans rfl; (try (have HEL := RV.out.elem; have xt0 := HEL.1 0 _ rfl; rw [Nat.add_zero] at xt0; have xt2 := HEL.1 2 _ rfl; have xt4 := HEL.1 4 _ rfl; have zt0 := HEL.2.1 0; have zt2 := HEL.2.1 2; have zt4 := HEL.2.1 4; clear HEL))) | ((with_reducible refine q2_ (f := 25) rfl ?_); refine goesL_ (some 18) rfl rfl Try.func25 (by kernel_rfl) rfl #[.agg #[.int .i64 e0, .int .i64 e1, .int .i64 (dn.length : Int), .int .i64 e3, .string e4, .slice A5 p.length c5]] rfl (by simp only [List.map_toArray]; first | done | rfl) ?_; refine (threads_unused.calls e0 e1 (dn.length : Int) e3 e4 A5 c5 p _ _ (HP.out _ HB.out) HCP.out HU.out).mono ?_; rintro e w4 ⟨rfl, hb⟩; refine ⟨_, rfl, ?_⟩; have n0_ := qi_.mk (below_low HB.out (RV.out.size) hb); have n1_ := qi_.mk (RV.out.below hb); have n2_ := qi_.mk (qn_ BK3.out hb); clear HB RV BK3; have HB := n0_; have RV := n1_; have BK3 := n2_; clear n0_ n1_ n2_ hb; (try clear xg0 xg1 xe0 xe1 xe2 xe3 xe4 xe5); (try clear xt0 xt2 xt4 zt0 zt2 zt4); have xg0 := (qb_ RV.out.blk 0).trans rfl; have xg1 := (qb_ RV.out.blk 1).trans rfl; have xe0 := (qb_ BK3.out 0).trans rfl; have xe1 := (qb_ BK3.out 1).trans rfl; have xe2 := (qb_ BK3.out 2).trans rfl; have xe3 := (qb_ BK3.out 3).trans rfl; have xe4 := (qb_ BK3.out 4).trans rfl; have xe5 := (qb_ BK3.out 5).trans rfl; (try (have HEL := RV.out.elem; have xt0 := HEL.1 0 _ rfl; rw [Nat.add_zero] at xt0; have xt2 := HEL.1 2 _ rfl; have xt4 := HEL.1 4 _ rfl; have zt0 := HEL.2.1 0; have zt2 := HEL.2.1 2; have zt4 := HEL.2.1 4; clear HEL))) | fail)
             go_quiet (fail)
             go_wp2
             go_quiet (fail)
             go_wp2
             go_quiet (fail)
             go_wp2
             go_ret
             first | exact ⟨by rfl, ⟨_, _, Rv.put_elem (t := t) ⟨t.f0, t.f1, t.f2, t.f3, true⟩ 4 (.bool true) (by decide) rfl (by first | exact RV.out | exact RV.out.drewN _ | exact (RV.out.drewN _).drewN _ | exact ((RV.out.drewN _).drewN _).drewN _)⟩, below_put (by repeat (first | (with_reducible first | exact HB.out | apply qa_ | apply qc_) | exact HB.out)) HBE.out _ _⟩ | exact ⟨_, _, by rfl, Rv.put_elem (t := t) ⟨t.f0, t.f1, t.f2, t.f3, true⟩ 4 (.bool true) (by decide) rfl (by first | exact RV.out | exact RV.out.drewN _ | exact (RV.out.drewN _).drewN _ | exact ((RV.out.drewN _).drewN _).drewN _), below_put (by repeat (first | (with_reducible first | exact HB.out | apply qa_ | apply qc_) | exact HB.out)) HBE.out _ _⟩
            ·rw [if_neg t4] at H
             have t4a : (t.f0 == e1) = false := beq_eq_false_iff_ne.mpr t4
             have t4b : (t.f0 != e1) = true := bne_iff_ne.mpr t4
             simp only [Prod.mk.injEq] at H
             obtain ⟨rfl, rfl, rfl⟩ := H
             go_enter Try.func18, Try.ntmps18
             go_wp2_with (first | ((with_reducible refine gate_dst (N := 3) rfl ?_); refine q1_ ?hg (N := 3) ?hd (cs := #[.int .i64 e0, .int .i64 e1, .int .i64 (dn.length : Int), .int .i64 e3, .string e4, .slice A5 p.length c5]) (t := 43) ?hr ?_; (case hd => rfl); (case hg => rfl); (case hr => first | (go_simp; done) | (go_simp; rfl)); intro g3 hg w3 hbox hb; have n0_ := qi_.mk (below_low HB.out (RV.out.size) hb); have n1_ := qi_.mk (RV.out.below hb); have BK3 := qi_.mk hbox; have GE3 : qi_ (B ≤ g3) := qi_.mk (by rw [hg]; exact RV.out.size); clear HB RV; have HB := n0_; have RV := n1_; clear n0_ n1_ hb hbox hg; (try clear xg0 xg1 xe0 xe1 xe2 xe3 xe4 xe5); (try clear xt0 xt2 xt4 zt0 zt2 zt4); have xg0 := (qb_ RV.out.blk 0).trans rfl; have xg1 := (qb_ RV.out.blk 1).trans rfl; have xe0 := (qb_ BK3.out 0).trans rfl; have xe1 := (qb_ BK3.out 1).trans rfl; have xe2 := (qb_ BK3.out 2).trans rfl; have xe3 := (qb_ BK3.out 3).trans rfl; have xe4 := (qb_ BK3.out 4).trans rfl; have xe5 := (qb_ BK3.out 5).trans rfl; (try (have HEL := RV.out.elem; have xt0 := HEL.1 0 _ rfl; rw [Nat.add_zero] at xt0; have xt2 := HEL.1 2 _ rfl; have xt4 := HEL.1 4 _ rfl; have zt0 := HEL.2.1 0; have zt2 := HEL.2.1 2; have zt4 := HEL.2.1 4; clear HEL))) | ((with_reducible refine q2_ (f := 25) rfl ?_); refine goesL_ (some 18) rfl rfl Try.func25 (by kernel_rfl) rfl #[.agg #[.int .i64 e0, .int .i64 e1, .int .i64 (dn.length : Int), .int .i64 e3, .string e4, .slice A5 p.length c5]] rfl (by simp only [List.map_toArray]; first | done | rfl) ?_; refine (threads_unused.calls e0 e1 (dn.length : Int) e3 e4 A5 c5 p _ _ (HP.out _ HB.out) HCP.out HU.out).mono ?_; rintro e w4 ⟨rfl, hb⟩; refine ⟨_, rfl, ?_⟩; have n0_ := qi_.mk (below_low HB.out (RV.out.size) hb); have n1_ := qi_.mk (RV.out.below hb); have n2_ := qi_.mk (qn_ BK3.out hb); clear HB RV BK3; have HB := n0_; have RV := n1_; have BK3 := n2_; clear n0_ n1_ n2_ hb; (try clear xg0 xg1 xe0 xe1 xe2 xe3 xe4 xe5); (try clear xt0 xt2 xt4 zt0 zt2 zt4); have xg0 := (qb_ RV.out.blk 0).trans rfl; have xg1 := (qb_ RV.out.blk 1).trans rfl; have xe0 := (qb_ BK3.out 0).trans rfl; have xe1 := (qb_ BK3.out 1).trans rfl; have xe2 := (qb_ BK3.out 2).trans rfl; have xe3 := (qb_ BK3.out 3).trans rfl; have xe4 := (qb_ BK3.out 4).trans rfl; have xe5 := (qb_ BK3.out 5).trans rfl; (try (have HEL := RV.out.elem; have xt0 := HEL.1 0 _ rfl; rw [Nat.add_zero] at xt0; have xt2 := HEL.1 2 _ rfl; have xt4 := HEL.1 4 _ rfl; have zt0 := HEL.2.1 0; have zt2 := HEL.2.1 2; have zt4 := HEL.2.1 4; clear HEL))) | fail)
             go_quiet (fail)
             go_wp2
             go_quiet (fail)
             go_wp2
             go_quiet (fail)
             go_wp2
             go_ret
             first | exact ⟨_, _, by rfl, (by first | exact RV.out | exact RV.out.drewN _ | exact (RV.out.drewN _).drewN _ | exact ((RV.out.drewN _).drewN _).drewN _), (by repeat (first | (with_reducible first | exact HB.out | apply qa_ | apply qc_) | exact HB.out))⟩ | exact ⟨by rfl, ⟨_, _, (by first | exact RV.out | exact RV.out.drewN _ | exact (RV.out.drewN _).drewN _ | exact ((RV.out.drewN _).drewN _).drewN _)⟩, (by repeat (first | (with_reducible first | exact HB.out | apply qa_ | apply qc_) | exact HB.out))⟩
end Go.Proofs.Ytjpdcnaealdbjaa.PTh
namespace Go.Proofs.Ytjpdcnaealdbjaa.PTh
open Go.RowKit Go.Proofs.YtjpdcnaealdbjaaW.PrintWords Go.Proofs.YtjpdcnaealdbjaaW.PrintLast Go.Proofs.YtjpdcnaealdbjaaW.PrintMore
attribute [local go_sem] max2_int min2_int max_two min_two max_three min_three max_four min_four
attribute [local go_sem] World.cell?_alloc_some
set_option linter.unusedVariables false
set_option linter.unusedSimpArgs false


theorem gate_storeV {P : Program} {ops : Array Oper} {rest : List Oper} {o : Oper} {a : Act} {W : World} {Q : Exit → Act → World → Prop} {ty : TypeId} {x y : Operand} (_ho : o.op = .store ty x y) (h : wpList P ops Q (o :: rest) a W) : wpList P ops Q (o :: rest) a W := h
theorem store_eventV {P : Program} {ops : Array Oper} {rest : List Oper} {o : Oper} {a : Act} {w : World} {Q : Exit → Act → World → Prop} (hgd : o.guard = none) (ty : TypeId) (x y : Operand) (ho : o.op = .store ty x y)
  (g : Nat) (cells : Array Value) (hx : a.eval x = .pointer (some ⟨g, 0, none⟩)) (hy : a.eval y = .agg cells)
  (t : TypeId) (old : Array Value) (hg : w.heap[g]? = some (.cells old t (0, 0))) (hi : (P.info? ty).map (·.size) = some cells.size)
  (hold : old.size = cells.size) (h1 : cells.all (·.oneCell') = true)
  (h : ∀ w' : World, w'.heap[g]? = some (.cells cells t (0, 0)) → (∀ k, k ≠ g → w'.heap[k]? = w.heap[k]?) → (∀ (B : Nat) (w0 : World), B ≤ g → Below B w0 w → Below B w0 w') → wpList P ops Q rest (a.put o.dst undef) w') : wpList P ops Q (o :: rest) a w :=
 wpList_store_row hgd ty x y ho g cells hx hy t old hg hi hold h1 (h _ (setRow_heap w g old cells t (0, 0) hg) (fun k hk => setRow_other w g k cells hk) (fun B w0 hB hb => below_setRow hb hB cells))

theorem results_ttc {P : Program} {fn : Func} {p u v : Tmp} {ty : TypeId} (h : fn.results = #[.tmp u, .tmp v, .cell p ty]) (tmps : Array Value) (w : World) (g : Nat) (t : TypeId) (cs : Array Value) (fr : Nat × Nat) (d : TypeDesc)
  (hp : tmps.getD p undef = .pointer (some ⟨g, 0, none⟩)) (hg : w.heap[g]? = some (.cells cs t fr))
  (hu : P.underlying ty = some d) (hd : (match d with | .struct _ | .array _ _ => true | _ => false) = true) (hi : (P.info? ty).map (·.size) = some cs.size) :
  (results fn tmps).run P w = .ok (.tuple #[tmps.getD u undef, tmps.getD v undef, .agg cs]) w := by
 have hp' : tmps[p]?.getD undef = .pointer (some ⟨g, 0, none⟩) := by simpa using hp
 simp [results, h, hp', asAddr, run_loadVar_row w g t ty cs fr d hg hu hd hi]
def rvRun (k : Nat) : List S43 → Int → List ByteArray → List S34 → Option (List S34 × List ByteArray × Int × Int)
 | [], _, text, ths => some (ths, text, 0, 0)
 | e :: es, i, text, ths => (rvStep k text ths e.f0 e.f1 e.f2 e.f3 e.f4 e.f5.f0).bind fun s => if s.2.2 = 0 then rvRun k es (i + 1) s.1 s.2.1 else some ([], [], s.2.2, i)
theorem rvRun.mono : ∀ es i text ths k, LeO (rvRun k es i text ths) (rvRun (k + 1) es i text ths)
 | [], _, _, _, _ => LeO.refl _
 | e :: es, i, text, ths, k => by
  unfold rvRun
  exact LeO.bind (rvStep.mono _ _ _ _ _ _ _ _ _) (fun s => LeO.ite (rvRun.mono es _ _ _ k) (LeO.refl _))
def threads_Run.f (k : Nat) (l0 : List ByteArray) (l1 : List (S43)) : Option ((List (S34)) × List ByteArray × Int × Int) :=
 (lines_Code.f k l0).bind fun c => if c = 0 then (if (30 : Int) < (l1.length : Int) then some ([], [], 2, -1) else ((slices_Clone_string_string.f l0).bind fun t => rvRun k l1 0 t [])) else some ([], [], c, -2)
theorem threads_Run.mono : ∀ l0 l1 k, LeO (threads_Run.f k l0 l1) (threads_Run.f (k + 1) l0 l1) := by
 intro l0 l1 k
 unfold threads_Run.f
 exact LeO.bind (lines_Code.mono _ _) (fun _ => LeO.ite (LeO.ite (LeO.refl _) (LeO.bind (LeO.refl _) (fun _ => rvRun.mono _ _ _ _ _))) (LeO.refl _))
theorem Rv.keep {w w' : World} {B g g' t : Nat} {cs : Array Value} {vt vh : Value} {text : List ByteArray} {ths : List S34} (h : Rv w B g vt vh text ths) (hb : w.heap[g']? = some (.cells cs t (0, 0))) (hk : ∀ k, k ≠ g' → w'.heap[k]? = w.heap[k]?) (h1 : 49 ≠ t) (h2 : 9 ≠ t) (h3 : 34 ≠ t) : Rv w' B g vt vh text ths :=
 ⟨(hk g (blk_ne h.blk hb h1)).trans h.blk, h.ge, Kd.R_mono (Kd.R_move (Kd.R_types h.tx hb (fun q hq => by rw [List.mem_singleton.1 hq]; exact h2)) (fun k hk' => hk k hk'.2)) (fun _ _ => trivial), Kd.R_mono (Kd.R_move (Kd.R_types h.th hb (fun q hq => by rw [List.mem_singleton.1 hq]; exact h3)) (fun k hk' => hk k hk'.2)) (fun _ _ => trivial), h.le⟩
theorem at_mid43 (done : List S43) (e : S43) (es : List S43) : rd_T43 (done ++ e :: es) (done.length : Int) = e := by simp [rd_T43, List.getD_eq_getElem?_getD]
theorem Rv.first {w : World} {B g : Nat} {v : Value} {text : List ByteArray} (hb : w.heap[g]? = some (.cells #[v, .slice none 0 0] 49 (0, 0))) (hg : B ≤ g) (ht : Kd.R Kd.string 9 w B (fun _ => True) v text) : Rv w B g v (.slice none 0 0) text [] := ⟨hb, hg, ht, Kd.R_nil _ _ _ _ _, by decide⟩
set_option maxHeartbeats 8000000 in
set_option maxRecDepth 100000 in
theorem threads_Run.calls (k : Nat) (A0 : Option Addr) (c0 : Nat) (l0 : List ByteArray) (A1 : Option Addr) (c1 : Nat) (l1 : List (S43)) (r1 : List (S34)) (r2 : List ByteArray) (r3 : Int) (r4 : Int) (w : World) (hr0 : Kd.C Kd.string w A0 l0.length l0) (hc0 : l0.length ≤ c0) (hr1 : Kd.C k43 w A1 l1.length l1) (hc1 : l1.length ≤ c1) (h : threads_Run.f k l0 l1 = some (r1, r2, r3, r4)) :
  Calls Try.prog 8 #[.slice A0 l0.length c0, .slice A1 l1.length c1] w fun e w' => ∃ v0_ v1_ : Value, e = .returned (.tuple #[v0_, v1_, .agg #[.int .i64 r3, .int .i64 r4]]) ∧ Kd.R k34 34 w' w.heap.size (fun _ => True) v0_ r1 ∧ Kd.R Kd.string 9 w' w.heap.size (fun _ => True) v1_ r2 ∧ Below w.heap.size w w' := by
 have hu26 := Try.underlying26
 have hu43 := Try.underlying43
 have hu49 := Try.underlying49
 have HR0 := qi_.mk hr0
 have HC0 := qi_.mk hc0
 have HR1 := qi_.mk hr1
 have HC1 := qi_.mk hc1
 clear hr0 hc0 hr1 hc1
 unfold threads_Run.f at h
 obtain ⟨c, hc, H⟩ := Option.bind_eq_some_iff.mp h
 clear h
 have HLC := qi_.mk hc
 clear hc
 by_cases q1 : c = 0
 ·rw [if_pos q1] at H
  have q1a : (c == 0) = true := beq_iff_eq.mpr q1
  have q1b : (c != 0) = false := bne_eq_false_iff_eq.mpr q1
  clear q1
  by_cases q2 : (30 : Int) < (l1.length : Int)
  ·rw [if_pos q2] at H
   have q2a : decide ((30 : Int) < (l1.length : Int)) = true := decide_eq_true q2
   have q2b : decide ((l1.length : Int) > 30) = true := decide_eq_true q2
   simp only [Option.some.injEq, Prod.mk.injEq] at H
   obtain ⟨rfl, rfl, rfl, rfl⟩ := H
   go_enter Try.func8, Try.ntmps8
   go_wp2_with (first | ((with_reducible refine gate_dst (N := 6) rfl ?_); refine q1_ ?hg (N := 6) ?hd (cs := #[.int .i64 0, .int .i64 0]) (t := 26) ?hr ?_; (case hd => rfl); (case hg => rfl); (case hr => first | (go_simp; rfl) | kernel_rfl); intro g6 hg w6 hbox hb; have BK6 := qi_.mk hbox; have H6 : qi_ (g6 = w.heap.size) := qi_.mk hg; have HB6 := qi_.mk hb; have B60 := qi_.mk hbox; have LT6 : qi_ (w.heap.size < w6.heap.size) := qi_.mk (by have h_ := blk_lt hbox; rw [hg] at h_; exact h_); have HB := qi_.mk (Below.refl w6.heap.size w6); clear hb hbox hg; have x60 := (qb_ BK6.out 0).trans rfl; have x61 := (qb_ BK6.out 1).trans rfl; have z60 := qg_ BK6.out 0; have z61 := qg_ BK6.out 1) | ((with_reducible refine q2_ (f := 16) rfl ?_); refine goesL_ (some 13) rfl rfl Try.func16 (by kernel_rfl) rfl #[.slice A0 l0.length c0] rfl (by simp only [List.map_toArray]; first | done | rfl) ?_; refine (lines_Code.calls k A0 c0 l0 c _ (Kd.C_below HR0.out (qr_ HB6.out HB.out)) HC0.out HLC.out).mono ?_; rintro e w7 ⟨rfl, hb⟩; refine ⟨_, rfl, ?_⟩; have n0_ := qi_.mk (below_low HB.out (Below.size HB.out) hb); have n2_ := qi_.mk (qn_ BK6.out hb); clear HB BK6; have HB := n0_; have BK6 := n2_; clear n0_ n2_ hb; (try clear x60 x61 z60 z61); have x60 := (qb_ BK6.out 0).trans rfl; have x61 := (qb_ BK6.out 1).trans rfl; have z60 := qg_ BK6.out 0; have z61 := qg_ BK6.out 1) | ((with_reducible refine q2_ (f := 17) rfl ?_); refine goesL_ (some 23) rfl rfl Try.func17 (by kernel_rfl) rfl #[.slice A0 l0.length c0] rfl (by simp only [List.map_toArray]; first | done | rfl) ?_; refine (slices_Clone_string_string.calls A0 c0 l0 tx _ (Kd.C_below HR0.out (qr_ HB6.out HB.out)) HC0.out HCL.out).mono ?_; rintro e w8 ⟨v23, rfl, ho, hb⟩; refine ⟨_, rfl, ?_⟩; obtain ⟨At, ct, rfl⟩ := Kd.R_slice ho; have HO := qi_.mk (Kd.R_lower ho (Below.size HB.out)); clear ho; have n0_ := qi_.mk (below_low HB.out (Below.size HB.out) hb); have n2_ := qi_.mk (qn_ BK6.out hb); clear HB BK6; have HB := n0_; have BK6 := n2_; clear n0_ n2_ hb; (try clear x60 x61 z60 z61); have x60 := (qb_ BK6.out 0).trans rfl; have x61 := (qb_ BK6.out 1).trans rfl; have z60 := qg_ BK6.out 0; have z61 := qg_ BK6.out 1) | ((with_reducible refine gate_dst (N := 8) rfl ?_); refine q1_ ?hg (N := 8) ?hd (cs := #[.slice none 0 0, .slice none 0 0]) (t := 49) ?hr ?_; (case hd => rfl); (case hg => rfl); (case hr => first | (go_simp; rfl) | kernel_rfl); intro g8 hg w9 hbox hb; have BK8 := qi_.mk hbox; have GE8 : qi_ (w6.heap.size ≤ g8) := qi_.mk (by rw [hg]; exact Below.size HB.out); have n9_ := qi_.mk (Kd.R_below HO.out hb); clear HO; have HO := n9_; clear n9_ hbox hg; have n0_ := qi_.mk (below_low HB.out (Below.size HB.out) hb); have n2_ := qi_.mk (qn_ BK6.out hb); clear HB BK6; have HB := n0_; have BK6 := n2_; clear n0_ n2_ hb; (try clear x60 x61 z60 z61); have x60 := (qb_ BK6.out 0).trans rfl; have x61 := (qb_ BK6.out 1).trans rfl; have z60 := qg_ BK6.out 0; have z61 := qg_ BK6.out 1; have x80 := (qb_ BK8.out 0).trans rfl; have x81 := (qb_ BK8.out 1).trans rfl; have z80 := qg_ BK8.out 0; have z81 := qg_ BK8.out 1; have NE86 : g8 ≠ g6 := blk_ne BK8.out BK6.out (by decide); have NE68 := Ne.symm NE86) | fail)
   refine bodyPost_ret (results_ttc rfl _ _ g6 26 #[.int .i64 2, .int .i64 (-1)] (0, 0) _ rfl (by (with_reducible repeat (first | refine qd_ ?_ _ | refine qh_ ?_ | refine q7_ ?_ (by assumption) _)); refine q6_ (cs := #[.int .i64 2, .int .i64 0]) ?_ 1 _ rfl; (with_reducible repeat (first | refine qd_ ?_ _ | refine qh_ ?_ | refine q7_ ?_ (by assumption) _)); refine q6_ (cs := #[.int .i64 0, .int .i64 0]) ?_ 0 _ rfl; (with_reducible repeat (first | refine qd_ ?_ _ | refine qh_ ?_ | refine q7_ ?_ (by assumption) _)); exact BK6.out) Try.underlying26 rfl (by kernel_rfl)) rfl ?_
   exact ⟨_, _, rfl, Kd.R_nil _ _ _ _ _, Kd.R_nil _ _ _ _ _, (by repeat (first | (with_reducible first | exact qr_ HB6.out HB.out | apply qe_ | apply qa_ | apply qc_ | refine qf_ ?_ (Nat.le_of_eq H6.out.symm)) | exact qr_ HB6.out HB.out))⟩
  ·rw [if_neg q2] at H
   have q2a : decide ((30 : Int) < (l1.length : Int)) = false := decide_eq_false q2
   have q2b : decide ((l1.length : Int) > 30) = false := decide_eq_false q2
   obtain ⟨tx, ht, H⟩ := Option.bind_eq_some_iff.mp H
   have HCL := qi_.mk ht
   clear ht
   have HF0 := qi_.mk H
   clear H
   go_enter Try.func8, Try.ntmps8
   go_wp2_with (first | ((with_reducible refine gate_dst (N := 6) rfl ?_); refine q1_ ?hg (N := 6) ?hd (cs := #[.int .i64 0, .int .i64 0]) (t := 26) ?hr ?_; (case hd => rfl); (case hg => rfl); (case hr => first | (go_simp; rfl) | kernel_rfl); intro g6 hg w6 hbox hb; have BK6 := qi_.mk hbox; have H6 : qi_ (g6 = w.heap.size) := qi_.mk hg; have HB6 := qi_.mk hb; have B60 := qi_.mk hbox; have LT6 : qi_ (w.heap.size < w6.heap.size) := qi_.mk (by have h_ := blk_lt hbox; rw [hg] at h_; exact h_); have HB := qi_.mk (Below.refl w6.heap.size w6); clear hb hbox hg; have x60 := (qb_ BK6.out 0).trans rfl; have x61 := (qb_ BK6.out 1).trans rfl; have z60 := qg_ BK6.out 0; have z61 := qg_ BK6.out 1) | ((with_reducible refine q2_ (f := 16) rfl ?_); refine goesL_ (some 13) rfl rfl Try.func16 (by kernel_rfl) rfl #[.slice A0 l0.length c0] rfl (by simp only [List.map_toArray]; first | done | rfl) ?_; refine (lines_Code.calls k A0 c0 l0 c _ (Kd.C_below HR0.out (qr_ HB6.out HB.out)) HC0.out HLC.out).mono ?_; rintro e w7 ⟨rfl, hb⟩; refine ⟨_, rfl, ?_⟩; have n0_ := qi_.mk (below_low HB.out (Below.size HB.out) hb); have n2_ := qi_.mk (qn_ BK6.out hb); clear HB BK6; have HB := n0_; have BK6 := n2_; clear n0_ n2_ hb; (try clear x60 x61 z60 z61); have x60 := (qb_ BK6.out 0).trans rfl; have x61 := (qb_ BK6.out 1).trans rfl; have z60 := qg_ BK6.out 0; have z61 := qg_ BK6.out 1) | ((with_reducible refine q2_ (f := 17) rfl ?_); refine goesL_ (some 23) rfl rfl Try.func17 (by kernel_rfl) rfl #[.slice A0 l0.length c0] rfl (by simp only [List.map_toArray]; first | done | rfl) ?_; refine (slices_Clone_string_string.calls A0 c0 l0 tx _ (Kd.C_below HR0.out (qr_ HB6.out HB.out)) HC0.out HCL.out).mono ?_; rintro e w8 ⟨v23, rfl, ho, hb⟩; refine ⟨_, rfl, ?_⟩; obtain ⟨At, ct, rfl⟩ := Kd.R_slice ho; have HO := qi_.mk (Kd.R_lower ho (Below.size HB.out)); clear ho; have n0_ := qi_.mk (below_low HB.out (Below.size HB.out) hb); have n2_ := qi_.mk (qn_ BK6.out hb); clear HB BK6; have HB := n0_; have BK6 := n2_; clear n0_ n2_ hb; (try clear x60 x61 z60 z61); have x60 := (qb_ BK6.out 0).trans rfl; have x61 := (qb_ BK6.out 1).trans rfl; have z60 := qg_ BK6.out 0; have z61 := qg_ BK6.out 1) | ((with_reducible refine gate_dst (N := 8) rfl ?_); refine q1_ ?hg (N := 8) ?hd (cs := #[.slice none 0 0, .slice none 0 0]) (t := 49) ?hr ?_; (case hd => rfl); (case hg => rfl); (case hr => first | (go_simp; rfl) | kernel_rfl); intro g8 hg w9 hbox hb; have BK8 := qi_.mk hbox; have GE8 : qi_ (w6.heap.size ≤ g8) := qi_.mk (by rw [hg]; exact Below.size HB.out); have n9_ := qi_.mk (Kd.R_below HO.out hb); clear HO; have HO := n9_; clear n9_ hbox hg; have n0_ := qi_.mk (below_low HB.out (Below.size HB.out) hb); have n2_ := qi_.mk (qn_ BK6.out hb); clear HB BK6; have HB := n0_; have BK6 := n2_; clear n0_ n2_ hb; (try clear x60 x61 z60 z61); have x60 := (qb_ BK6.out 0).trans rfl; have x61 := (qb_ BK6.out 1).trans rfl; have z60 := qg_ BK6.out 0; have z61 := qg_ BK6.out 1; have x80 := (qb_ BK8.out 0).trans rfl; have x81 := (qb_ BK8.out 1).trans rfl; have z80 := qg_ BK8.out 0; have z81 := qg_ BK8.out 1; have NE86 : g8 ≠ g6 := blk_ne BK8.out BK6.out (by decide); have NE68 := Ne.symm NE86) | fail)
   go_loopg [27] l1.length (fun kq v27 w' => ∃ (done rest : List S43) (text1 : List ByteArray) (ths1 : List S34) (vt vh : Value), v27 = .int .i64 (done.length : Int) ∧ qi_ (rest.length = kq) ∧ qi_ (l1 = done ++ rest) ∧ qi_ (rvRun k rest (done.length : Int) text1 ths1 = some (r1, r2, r3, r4)) ∧ qi_ (Rv w' w6.heap.size g8 vt vh text1 ths1) ∧ qi_ (w'.heap[g6]? = some (.cells #[.int .i64 0, .int .i64 0] 26 (0, 0))) ∧ qi_ (Below w6.heap.size w6 w'))
   case atStart => exact ⟨[], l1, tx, [], .slice At tx.length ct, .slice none 0 0, rfl, ⟨rfl⟩, ⟨rfl⟩, HF0, ⟨Rv.first (by refine q6_ (cs := #[.slice At tx.length ct, .slice none 0 0]) ?_ 1 _ rfl; exact q6_ BK8.out 0 _ rfl) GE8.out (Kd.R_set (Kd.R_set HO.out BK8.out (by decide) _ _) (q6_ BK8.out 0 _ rfl) (by decide) _ _)⟩, ⟨q7_ (q7_ BK6.out NE68 _) NE68 _⟩, ⟨below_put (below_put HB.out GE8.out _ _) GE8.out _ _⟩⟩
   case round =>
    clear HF0 BK8 BK6 HB HO x60 x61 z60 z61 x80 x81 z80 z81
    obtain ⟨done, rest, text1, ths1, vt, vh, rfl, HK, HL, HF, RV, BK6, HB⟩ := hrel
    have x60 := (qb_ BK6.out 0).trans rfl; have x61 := (qb_ BK6.out 1).trans rfl; have z60 := qg_ BK6.out 0; have z61 := qg_ BK6.out 1
    obtain ⟨At1, ct1, rfl⟩ := RV.out.texts
    obtain ⟨Ah1, ch1, rfl⟩ := RV.out.threads
    have xg0 := (qb_ RV.out.blk 0).trans rfl
    have xg1 := (qb_ RV.out.blk 1).trans rfl
    cases rest with
    | nil =>
     have hx : decide ((done.length : Int) < (l1.length : Int)) = false := decide_eq_false (by rw [HL.out]; simp)
     have e_ := HF.out
     simp only [rvRun, Option.some.injEq, Prod.mk.injEq] at e_
     obtain ⟨rfl, rfl, rfl, rfl⟩ := e_
     have hxn : ¬ done.length < l1.length := by rw [HL.out]; simp
     go_wp2
     go_region
     go_wp2
     refine bodyPost_ret (results_ttc rfl _ _ g6 26 #[.int .i64 0, .int .i64 0] (0, 0) _ rfl (by (with_reducible repeat (first | refine qd_ ?_ _ | refine qh_ ?_ | refine q7_ ?_ (by assumption) _)); refine q6_ (cs := #[.int .i64 0, .int .i64 0]) ?_ 1 _ rfl; (with_reducible repeat (first | refine qd_ ?_ _ | refine qh_ ?_ | refine q7_ ?_ (by assumption) _)); refine q6_ (cs := #[.int .i64 0, .int .i64 0]) ?_ 0 _ rfl; (with_reducible repeat (first | refine qd_ ?_ _ | refine qh_ ?_ | refine q7_ ?_ (by assumption) _)); exact BK6.out) Try.underlying26 rfl (by kernel_rfl)) rfl ?_
     have hfin := Rv.far (Rv.far (RV.out.drew) (qh_ BK6.out) (by decide) (by decide) (by decide) 0 (.int .i64 0)) (q6_ (qh_ BK6.out) 0 (.int .i64 0) rfl) (by decide) (by decide) (by decide) 1 (.int .i64 0)
     exact ⟨_, _, rfl, Kd.R_lower hfin.th (Below.size HB6.out), Kd.R_lower hfin.tx (Below.size HB6.out), (by repeat (first | (with_reducible first | exact qr_ HB6.out HB.out | apply qe_ | apply qa_ | apply qc_ | refine qf_ ?_ (Nat.le_of_eq H6.out.symm)) | exact qr_ HB6.out HB.out))⟩
    | cons e es =>
     have hll : done.length + (es.length + 1) = l1.length := by rw [HL.out, List.length_append, List.length_cons]
     have hx : decide ((done.length : Int) < (l1.length : Int)) = true := decide_eq_true (by omega)
     have hxp : (done.length : Int) < (l1.length : Int) := by omega
     have hx0 : (0 : Int) ≤ (done.length : Int) := by omega
     have hxn : done.length < l1.length := by omega
     have hw1 : wrap64 ((done.length : Int) + 1) = ((done ++ [e]).length : Int) := by
      rw [List.length_append, List.length_singleton]
      unfold wrap64
      omega
     obtain ⟨kz, hkz⟩ : ∃ kz, gk = kz + 1 := ⟨es.length, by have := HK.out; rw [List.length_cons] at this; omega⟩
     have HK1 : qi_ (es.length = kz) := ⟨by have := HK.out; rw [List.length_cons] at this; omega⟩
     obtain ⟨ad, A5, c5, hA, y0, y1, y2, y3, y4, y5, hl5, hC5⟩ := at_T43 HR1.out (done.length : Int) hx0 hxp
     have he : rd_T43 l1 (done.length : Int) = e := by rw [HL.out]; exact at_mid43 _ _ _
     rw [he] at y0 y1 y2 y3 y4 y5 hl5 hC5
     rw [Int.toNat_natCast] at y0 y1 y2 y3 y4 y5
     subst hA
     have hW := qr_ HB6.out HB.out
     have xx0 := (Below.cell hW (World.block_lt_of_cell? w _ y0)).trans y0
     have xx1 := (Below.cell hW (World.block_lt_of_cell? w _ y1)).trans y1
     have xx2 := (Below.cell hW (World.block_lt_of_cell? w _ y2)).trans y2
     have xx3 := (Below.cell hW (World.block_lt_of_cell? w _ y3)).trans y3
     have xx4 := (Below.cell hW (World.block_lt_of_cell? w _ y4)).trans y4
     have xx5 := (Below.cell hW (World.block_lt_of_cell? w _ y5)).trans y5
     have HL5 := qi_.mk hl5
     have HC5 := qi_.mk hC5
     clear y0 y1 y2 y3 y4 y5 hl5 hC5 he hW
     have hs := HF.out
     unfold rvRun at hs
     clear HF
     obtain ⟨⟨s1, s2, s3⟩, hs1, hs⟩ := Option.bind_eq_some_iff.mp hs
     have HS := qi_.mk hs1
     clear hs1
     dsimp only at hs
     by_cases q5 : s3 = 0
     ·rw [if_pos q5] at hs
      have q5a : (s3 == 0) = true := beq_iff_eq.mpr q5
      have q5b : (s3 != 0) = false := bne_eq_false_iff_eq.mpr q5
      have HF := qi_.mk hs
      clear hs q5
      go_wp2_with (first | ((with_reducible refine gate_dst (N := 10) rfl ?_); refine q1_ ?hg (N := 10) ?hd (cs := #[.int .i64 0, .int .i64 0, .int .i64 0, .int .i64 0, .string ⟨#[]⟩, .slice none 0 0]) (t := 43) ?hr ?_; (case hd => rfl); (case hg => rfl); (case hr => first | (go_simp; rfl) | kernel_rfl); intro g10 hg w10 hbox hb; have BK10 := qi_.mk hbox; have GE10 : qi_ (w6.heap.size ≤ g10) := qi_.mk (by rw [hg]; exact Below.size HB.out); have n1_ := qi_.mk (RV.out.below hb); clear RV; have RV := n1_; clear n1_ hbox hg; have n0_ := qi_.mk (below_low HB.out (Below.size HB.out) hb); have n2_ := qi_.mk (qn_ BK6.out hb); clear HB BK6; have HB := n0_; have BK6 := n2_; clear n0_ n2_ hb; (try clear x60 x61 z60 z61); have x60 := (qb_ BK6.out 0).trans rfl; have x61 := (qb_ BK6.out 1).trans rfl; have z60 := qg_ BK6.out 0; have z61 := qg_ BK6.out 1; (try clear xg0 xg1); have xg0 := (qb_ RV.out.blk 0).trans rfl; have xg1 := (qb_ RV.out.blk 1).trans rfl; have x100 := (qb_ BK10.out 0).trans rfl) | ((with_reducible refine gate_storeV (ty := 43) (x := .tmp 10) (y := .tmp 31) rfl ?_); refine store_eventV rfl 43 (.tmp 10) (.tmp 31) rfl g10 #[.int .i64 e.f0, .int .i64 e.f1, .int .i64 e.f2, .int .i64 e.f3, .string e.f4, .slice A5 e.f5.f0.length c5] rfl rfl 43 #[.int .i64 0, .int .i64 0, .int .i64 0, .int .i64 0, .string ⟨#[]⟩, .slice none 0 0] BK10.out (by kernel_rfl) rfl (by simp [Value.oneCell']) ?_; intro w11 hn ho hb; have n0_ := qi_.mk (hb _ _ GE10.out HB.out); have n1_ := qi_.mk (RV.out.keep BK10.out ho (by decide) (by decide) (by decide)); have n2_ := qi_.mk ((ho _ (blk_ne BK6.out BK10.out (by decide))).trans BK6.out); have n3_ := qi_.mk hn; clear HB RV BK6 BK10 hn ho hb; have HB := n0_; have RV := n1_; have BK6 := n2_; have BK10 := n3_; clear n0_ n1_ n2_ n3_; (try clear x60 x61 z60 z61 x100); have x60 := (qb_ BK6.out 0).trans rfl; have x61 := (qb_ BK6.out 1).trans rfl; have z60 := qg_ BK6.out 0; have z61 := qg_ BK6.out 1; (try clear xg0 xg1); have xg0 := (qb_ RV.out.blk 0).trans rfl; have xg1 := (qb_ RV.out.blk 1).trans rfl; have xe0 := (qb_ BK10.out 0).trans rfl; have xe1 := (qb_ BK10.out 1).trans rfl; have xe2 := (qb_ BK10.out 2).trans rfl; have xe3 := (qb_ BK10.out 3).trans rfl; have xe4 := (qb_ BK10.out 4).trans rfl; have xe5 := (qb_ BK10.out 5).trans rfl) | ((with_reducible refine q2_ (f := 18) rfl ?_); refine goesL_ (some 33) rfl rfl Try.func18 (by kernel_rfl) rfl #[.pointer (some ⟨g8, 0, none⟩), .agg #[.int .i64 e.f0, .int .i64 e.f1, .int .i64 e.f2, .int .i64 e.f3, .string e.f4, .slice A5 e.f5.f0.length c5]] rfl (by simp only [List.map_toArray]; first | done | rfl) ?_; refine (rvStep.calls k w6.heap.size g8 _ _ text1 s1 ths1 s2 e.f0 e.f1 e.f2 e.f3 e.f4 A5 c5 e.f5.f0 s3 _ RV.out (fun W hW => Kd.C_below HC5.out (qr_ HB6.out (HB.out.trans hW))) HL5.out HS.out).mono ?_; rintro e w12 ⟨vt2, vh2, rfl, rv2, hb2⟩; refine ⟨_, rfl, ?_⟩; have n0_ := qi_.mk (HB.out.trans hb2); have n1_ := qi_.mk rv2; have n2_ : qi_ (w12.heap[g6]? = some (.cells #[.int .i64 0, .int .i64 0] 26 (0, 0))) := qi_.mk ((n0_.out.block g6 (by rw [H6.out]; exact LT6.out)).trans B60.out); clear HB RV BK6 BK10 rv2 hb2; have HB := n0_; have RV := n1_; have BK6 := n2_; clear n0_ n1_ n2_; (try clear x60 x61 z60 z61 xg0 xg1 xe0 xe1 xe2 xe3 xe4 xe5); have x60 := (qb_ BK6.out 0).trans rfl; have x61 := (qb_ BK6.out 1).trans rfl; have z60 := qg_ BK6.out 0; have z61 := qg_ BK6.out 1) | fail)
      go_roundg kz
      case measure => omega
      case rel => exact ⟨done ++ [e], es, s1, s2, vt2, vh2, by first | exact congrArg _ hw1 | (rw [List.length_append, List.length_singleton]; rfl), HK1, ⟨by rw [HL.out, List.append_assoc]; rfl⟩, ⟨by rw [List.length_append, List.length_singleton]; exact HF.out⟩, RV, BK6, HB⟩
     ·rw [if_neg q5] at hs
      have q5a : (s3 == 0) = false := beq_eq_false_iff_ne.mpr q5
      have q5b : (s3 != 0) = true := bne_iff_ne.mpr q5
      simp only [Option.some.injEq, Prod.mk.injEq] at hs
      obtain ⟨rfl, rfl, rfl, rfl⟩ := hs
      go_wp2_with (first | ((with_reducible refine gate_dst (N := 10) rfl ?_); refine q1_ ?hg (N := 10) ?hd (cs := #[.int .i64 0, .int .i64 0, .int .i64 0, .int .i64 0, .string ⟨#[]⟩, .slice none 0 0]) (t := 43) ?hr ?_; (case hd => rfl); (case hg => rfl); (case hr => first | (go_simp; rfl) | kernel_rfl); intro g10 hg w10 hbox hb; have BK10 := qi_.mk hbox; have GE10 : qi_ (w6.heap.size ≤ g10) := qi_.mk (by rw [hg]; exact Below.size HB.out); have n1_ := qi_.mk (RV.out.below hb); clear RV; have RV := n1_; clear n1_ hbox hg; have n0_ := qi_.mk (below_low HB.out (Below.size HB.out) hb); have n2_ := qi_.mk (qn_ BK6.out hb); clear HB BK6; have HB := n0_; have BK6 := n2_; clear n0_ n2_ hb; (try clear x60 x61 z60 z61); have x60 := (qb_ BK6.out 0).trans rfl; have x61 := (qb_ BK6.out 1).trans rfl; have z60 := qg_ BK6.out 0; have z61 := qg_ BK6.out 1; (try clear xg0 xg1); have xg0 := (qb_ RV.out.blk 0).trans rfl; have xg1 := (qb_ RV.out.blk 1).trans rfl; have x100 := (qb_ BK10.out 0).trans rfl) | ((with_reducible refine gate_storeV (ty := 43) (x := .tmp 10) (y := .tmp 31) rfl ?_); refine store_eventV rfl 43 (.tmp 10) (.tmp 31) rfl g10 #[.int .i64 e.f0, .int .i64 e.f1, .int .i64 e.f2, .int .i64 e.f3, .string e.f4, .slice A5 e.f5.f0.length c5] rfl rfl 43 #[.int .i64 0, .int .i64 0, .int .i64 0, .int .i64 0, .string ⟨#[]⟩, .slice none 0 0] BK10.out (by kernel_rfl) rfl (by simp [Value.oneCell']) ?_; intro w11 hn ho hb; have n0_ := qi_.mk (hb _ _ GE10.out HB.out); have n1_ := qi_.mk (RV.out.keep BK10.out ho (by decide) (by decide) (by decide)); have n2_ := qi_.mk ((ho _ (blk_ne BK6.out BK10.out (by decide))).trans BK6.out); have n3_ := qi_.mk hn; clear HB RV BK6 BK10 hn ho hb; have HB := n0_; have RV := n1_; have BK6 := n2_; have BK10 := n3_; clear n0_ n1_ n2_ n3_; (try clear x60 x61 z60 z61 x100); have x60 := (qb_ BK6.out 0).trans rfl; have x61 := (qb_ BK6.out 1).trans rfl; have z60 := qg_ BK6.out 0; have z61 := qg_ BK6.out 1; (try clear xg0 xg1); have xg0 := (qb_ RV.out.blk 0).trans rfl; have xg1 := (qb_ RV.out.blk 1).trans rfl; have xe0 := (qb_ BK10.out 0).trans rfl; have xe1 := (qb_ BK10.out 1).trans rfl; have xe2 := (qb_ BK10.out 2).trans rfl; have xe3 := (qb_ BK10.out 3).trans rfl; have xe4 := (qb_ BK10.out 4).trans rfl; have xe5 := (qb_ BK10.out 5).trans rfl) | ((with_reducible refine q2_ (f := 18) rfl ?_); refine goesL_ (some 33) rfl rfl Try.func18 (by kernel_rfl) rfl #[.pointer (some ⟨g8, 0, none⟩), .agg #[.int .i64 e.f0, .int .i64 e.f1, .int .i64 e.f2, .int .i64 e.f3, .string e.f4, .slice A5 e.f5.f0.length c5]] rfl (by simp only [List.map_toArray]; first | done | rfl) ?_; refine (rvStep.calls k w6.heap.size g8 _ _ text1 s1 ths1 s2 e.f0 e.f1 e.f2 e.f3 e.f4 A5 c5 e.f5.f0 s3 _ RV.out (fun W hW => Kd.C_below HC5.out (qr_ HB6.out (HB.out.trans hW))) HL5.out HS.out).mono ?_; rintro e w12 ⟨vt2, vh2, rfl, rv2, hb2⟩; refine ⟨_, rfl, ?_⟩; have n0_ := qi_.mk (HB.out.trans hb2); have n1_ := qi_.mk rv2; have n2_ : qi_ (w12.heap[g6]? = some (.cells #[.int .i64 0, .int .i64 0] 26 (0, 0))) := qi_.mk ((n0_.out.block g6 (by rw [H6.out]; exact LT6.out)).trans B60.out); clear HB RV BK6 BK10 rv2 hb2; have HB := n0_; have RV := n1_; have BK6 := n2_; clear n0_ n1_ n2_; (try clear x60 x61 z60 z61 xg0 xg1 xe0 xe1 xe2 xe3 xe4 xe5); have x60 := (qb_ BK6.out 0).trans rfl; have x61 := (qb_ BK6.out 1).trans rfl; have z60 := qg_ BK6.out 0; have z61 := qg_ BK6.out 1) | fail)
      refine bodyPost_ret (results_ttc rfl _ _ g6 26 #[.int .i64 s3, .int .i64 (done.length : Int)] (0, 0) _ rfl (by (with_reducible repeat (first | refine qd_ ?_ _ | refine qh_ ?_ | refine q7_ ?_ (by assumption) _)); refine q6_ (cs := #[.int .i64 s3, .int .i64 0]) ?_ 1 _ rfl; (with_reducible repeat (first | refine qd_ ?_ _ | refine qh_ ?_ | refine q7_ ?_ (by assumption) _)); refine q6_ (cs := #[.int .i64 0, .int .i64 0]) ?_ 0 _ rfl; (with_reducible repeat (first | refine qd_ ?_ _ | refine qh_ ?_ | refine q7_ ?_ (by assumption) _)); exact BK6.out) Try.underlying26 rfl (by kernel_rfl)) rfl ?_
      exact ⟨_, _, rfl, Kd.R_nil _ _ _ _ _, Kd.R_nil _ _ _ _ _, (by repeat (first | (with_reducible first | exact qr_ HB6.out HB.out | apply qe_ | apply qa_ | apply qc_ | refine qf_ ?_ (Nat.le_of_eq H6.out.symm)) | exact qr_ HB6.out HB.out))⟩
 ·rw [if_neg q1] at H
  have q1a : (c == 0) = false := beq_eq_false_iff_ne.mpr q1
  have q1b : (c != 0) = true := bne_iff_ne.mpr q1
  simp only [Option.some.injEq, Prod.mk.injEq] at H
  obtain ⟨rfl, rfl, rfl, rfl⟩ := H
  go_enter Try.func8, Try.ntmps8
  go_wp2_with (first | ((with_reducible refine gate_dst (N := 6) rfl ?_); refine q1_ ?hg (N := 6) ?hd (cs := #[.int .i64 0, .int .i64 0]) (t := 26) ?hr ?_; (case hd => rfl); (case hg => rfl); (case hr => first | (go_simp; rfl) | kernel_rfl); intro g6 hg w6 hbox hb; have BK6 := qi_.mk hbox; have H6 : qi_ (g6 = w.heap.size) := qi_.mk hg; have HB6 := qi_.mk hb; have B60 := qi_.mk hbox; have LT6 : qi_ (w.heap.size < w6.heap.size) := qi_.mk (by have h_ := blk_lt hbox; rw [hg] at h_; exact h_); have HB := qi_.mk (Below.refl w6.heap.size w6); clear hb hbox hg; have x60 := (qb_ BK6.out 0).trans rfl; have x61 := (qb_ BK6.out 1).trans rfl; have z60 := qg_ BK6.out 0; have z61 := qg_ BK6.out 1) | ((with_reducible refine q2_ (f := 16) rfl ?_); refine goesL_ (some 13) rfl rfl Try.func16 (by kernel_rfl) rfl #[.slice A0 l0.length c0] rfl (by simp only [List.map_toArray]; first | done | rfl) ?_; refine (lines_Code.calls k A0 c0 l0 c _ (Kd.C_below HR0.out (qr_ HB6.out HB.out)) HC0.out HLC.out).mono ?_; rintro e w7 ⟨rfl, hb⟩; refine ⟨_, rfl, ?_⟩; have n0_ := qi_.mk (below_low HB.out (Below.size HB.out) hb); have n2_ := qi_.mk (qn_ BK6.out hb); clear HB BK6; have HB := n0_; have BK6 := n2_; clear n0_ n2_ hb; (try clear x60 x61 z60 z61); have x60 := (qb_ BK6.out 0).trans rfl; have x61 := (qb_ BK6.out 1).trans rfl; have z60 := qg_ BK6.out 0; have z61 := qg_ BK6.out 1) | ((with_reducible refine q2_ (f := 17) rfl ?_); refine goesL_ (some 23) rfl rfl Try.func17 (by kernel_rfl) rfl #[.slice A0 l0.length c0] rfl (by simp only [List.map_toArray]; first | done | rfl) ?_; refine (slices_Clone_string_string.calls A0 c0 l0 tx _ (Kd.C_below HR0.out (qr_ HB6.out HB.out)) HC0.out HCL.out).mono ?_; rintro e w8 ⟨v23, rfl, ho, hb⟩; refine ⟨_, rfl, ?_⟩; obtain ⟨At, ct, rfl⟩ := Kd.R_slice ho; have HO := qi_.mk (Kd.R_lower ho (Below.size HB.out)); clear ho; have n0_ := qi_.mk (below_low HB.out (Below.size HB.out) hb); have n2_ := qi_.mk (qn_ BK6.out hb); clear HB BK6; have HB := n0_; have BK6 := n2_; clear n0_ n2_ hb; (try clear x60 x61 z60 z61); have x60 := (qb_ BK6.out 0).trans rfl; have x61 := (qb_ BK6.out 1).trans rfl; have z60 := qg_ BK6.out 0; have z61 := qg_ BK6.out 1) | ((with_reducible refine gate_dst (N := 8) rfl ?_); refine q1_ ?hg (N := 8) ?hd (cs := #[.slice none 0 0, .slice none 0 0]) (t := 49) ?hr ?_; (case hd => rfl); (case hg => rfl); (case hr => first | (go_simp; rfl) | kernel_rfl); intro g8 hg w9 hbox hb; have BK8 := qi_.mk hbox; have GE8 : qi_ (w6.heap.size ≤ g8) := qi_.mk (by rw [hg]; exact Below.size HB.out); have n9_ := qi_.mk (Kd.R_below HO.out hb); clear HO; have HO := n9_; clear n9_ hbox hg; have n0_ := qi_.mk (below_low HB.out (Below.size HB.out) hb); have n2_ := qi_.mk (qn_ BK6.out hb); clear HB BK6; have HB := n0_; have BK6 := n2_; clear n0_ n2_ hb; (try clear x60 x61 z60 z61); have x60 := (qb_ BK6.out 0).trans rfl; have x61 := (qb_ BK6.out 1).trans rfl; have z60 := qg_ BK6.out 0; have z61 := qg_ BK6.out 1; have x80 := (qb_ BK8.out 0).trans rfl; have x81 := (qb_ BK8.out 1).trans rfl; have z80 := qg_ BK8.out 0; have z81 := qg_ BK8.out 1; have NE86 : g8 ≠ g6 := blk_ne BK8.out BK6.out (by decide); have NE68 := Ne.symm NE86) | fail)
  refine bodyPost_ret (results_ttc rfl _ _ g6 26 #[.int .i64 c, .int .i64 (-2)] (0, 0) _ rfl (by (with_reducible repeat (first | refine qd_ ?_ _ | refine qh_ ?_ | refine q7_ ?_ (by assumption) _)); refine q6_ (cs := #[.int .i64 c, .int .i64 0]) ?_ 1 _ rfl; (with_reducible repeat (first | refine qd_ ?_ _ | refine qh_ ?_ | refine q7_ ?_ (by assumption) _)); refine q6_ (cs := #[.int .i64 0, .int .i64 0]) ?_ 0 _ rfl; (with_reducible repeat (first | refine qd_ ?_ _ | refine qh_ ?_ | refine q7_ ?_ (by assumption) _)); exact BK6.out) Try.underlying26 rfl (by kernel_rfl)) rfl ?_
  exact ⟨_, _, rfl, Kd.R_nil _ _ _ _ _, Kd.R_nil _ _ _ _ _, (by repeat (first | (with_reducible first | exact qr_ HB6.out HB.out | apply qe_ | apply qa_ | apply qc_ | refine qf_ ?_ (Nat.le_of_eq H6.out.symm)) | exact qr_ HB6.out HB.out))⟩
end Go.Proofs.Ytjpdcnaealdbjaa.PTh
