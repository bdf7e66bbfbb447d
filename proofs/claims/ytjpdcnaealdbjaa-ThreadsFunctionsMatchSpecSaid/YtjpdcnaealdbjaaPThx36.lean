-- printed by drv.py (a program of this repo, over the kit's printer)
import Derived.Test.YtjpdcnaealdbjaaPThx0
namespace Go.Proofs.Ytjpdcnaealdbjaa.PTh
open Go.RowKit Go.Proofs.YtjpdcnaealdbjaaW.PrintWords Go.Proofs.YtjpdcnaealdbjaaW.PrintLast Go.Proofs.YtjpdcnaealdbjaaW.PrintMore
attribute [local go_sem] max2_int min2_int max_two min_two max_three min_three max_four min_four   -- for this text's walks alone
set_option linter.unusedVariables false
set_option linter.unusedSimpArgs false

/-! ### qu_: function 24 -/
mutual
def qu_.j0 : Nat → List (S34) → List (S34) → Bool → Int → Int → Int → Int → ByteArray → List (S52) → Option ((List (S34)) × Int)
 | 0, _, _, _, _, _, _, _, _, _ => none
 | k + 1, x0, x8, x22, x257000, x257001, x257002, x257003, x257004, x257005 => if x22 = true then (some (x0, 3)) else (if (x0.length : Int) ≥ 12 then (some (x0, 14)) else (if x8.length < 4398046511104 then (some ((x8 ++ [(⟨x257001, x257003, 1, false, false⟩ : S34)]), 0)) else (none)))
def qu_.j1 : Nat → List (S34) → List (S34) → Bool → Int → Int → Int → Int → ByteArray → List (S52) → Option ((List (S34)) × Int)
 | 0, _, _, _, _, _, _, _, _, _ => none
 | k + 1, x0, x8, x45, x257000, x257001, x257002, x257003, x257004, x257005 => if x45 = true then (some (x0, 6)) else (if x257000 = 2 then (if 0 ≤ x257002 then (if x257002 < (x8.length : Int) then ((some (x8.set (x257002 : Int).toNat (⟨(rd_T34 x8 x257002).f0, (rd_T34 x8 x257002).f1, wrap64 (((rd_T34 x8 x257002).f2) + 1), (rd_T34 x8 x257002).f3, (rd_T34 x8 x257002).f4⟩ : S34) : List (S34))).bind fun y264 => (some ((y264.set (x257002 : Int).toNat (⟨(rd_T34 y264 x257002).f0, (rd_T34 y264 x257002).f1, (rd_T34 y264 x257002).f2, (rd_T34 y264 x257002).f3, false⟩ : S34)), 0))) else (none)) else (none)) else (if 0 ≤ x257002 then (if x257002 < (x0.length : Int) then (if (rd_T34 x0 x257002).f4 = true then (some (x0, 11)) else (if ((rd_T34 x0 x257002).f0) = x257001 then (if x257002 < (x8.length : Int) then (some ((x8.set (x257002 : Int).toNat (⟨(rd_T34 x8 x257002).f0, (rd_T34 x8 x257002).f1, (rd_T34 x8 x257002).f2, (rd_T34 x8 x257002).f3, true⟩ : S34)), 0)) else (none)) else (some (x0, 13)))) else (none)) else (none)))
end
def qu_.f (k : Nat) (l0 : List (S34)) (a1_0 : Int) (a1_1 : Int) (a1_2 : Int) (a1_3 : Int) (a1_4 : ByteArray) (l1_5 : List (S52)) (a2 : Int) : Option ((List (S34)) × Int) := if ([] : List (S34)).length + l0.length < 4398046511104 then ((some (([] : List (S34)) ++ l0 : List (S34))).bind fun y257 => (if a1_0 = 1 then (if a1_3 < 0 then (qu_.j0 k l0 y257 true a1_0 a1_1 a1_2 a1_3 a1_4 l1_5) else (qu_.j0 k l0 y257 (decide (a1_3 ≥ a2)) a1_0 a1_1 a1_2 a1_3 a1_4 l1_5)) else (if a1_2 < 0 then (qu_.j1 k l0 y257 true a1_0 a1_1 a1_2 a1_3 a1_4 l1_5) else (qu_.j1 k l0 y257 (decide (a1_2 ≥ (l0.length : Int))) a1_0 a1_1 a1_2 a1_3 a1_4 l1_5)))) else (none)
theorem qu_.mono_l : ∀ k, (∀ y0 y1 y2 y3 y4 y5 y6 y7 y8, LeO (qu_.j0 k y0 y1 y2 y3 y4 y5 y6 y7 y8) (qu_.j0 (k + 1) y0 y1 y2 y3 y4 y5 y6 y7 y8)) ∧ (∀ y0 y1 y2 y3 y4 y5 y6 y7 y8, LeO (qu_.j1 k y0 y1 y2 y3 y4 y5 y6 y7 y8) (qu_.j1 (k + 1) y0 y1 y2 y3 y4 y5 y6 y7 y8))
 | 0 => ⟨fun _ _ _ _ _ _ _ _ _ r h => by simp [qu_.j0] at h, fun _ _ _ _ _ _ _ _ _ r h => by simp [qu_.j1] at h⟩
 | k + 1 => by
  obtain ⟨ih0, ih1⟩ := qu_.mono_l k
  refine ⟨?_, ?_⟩
  ·intro y0 y1 y2 y3 y4 y5 y6 y7 y8
   unfold qu_.j0
   repeat' first
   | (with_reducible exact ih0 _ _ _ _ _ _ _ _ _)
   | (with_reducible exact ih1 _ _ _ _ _ _ _ _ _)
   | (with_reducible exact LeO.refl _)
   | (with_reducible exact LeO.none _)
   | (with_reducible refine LeO.ite ?_ ?_)
   | (with_reducible refine LeO.bind ?_ (fun _ => ?_))
   | exact ih0 _ _ _ _ _ _ _ _ _
   | exact ih1 _ _ _ _ _ _ _ _ _
   | exact LeO.none _
   | refine LeO.ite ?_ ?_
   | refine LeO.bind ?_ (fun _ => ?_)
  ·intro y0 y1 y2 y3 y4 y5 y6 y7 y8
   unfold qu_.j1
   repeat' first
   | (with_reducible exact ih0 _ _ _ _ _ _ _ _ _)
   | (with_reducible exact ih1 _ _ _ _ _ _ _ _ _)
   | (with_reducible exact LeO.refl _)
   | (with_reducible exact LeO.none _)
   | (with_reducible refine LeO.ite ?_ ?_)
   | (with_reducible refine LeO.bind ?_ (fun _ => ?_))
   | exact ih0 _ _ _ _ _ _ _ _ _
   | exact ih1 _ _ _ _ _ _ _ _ _
   | exact LeO.none _
   | refine LeO.ite ?_ ?_
   | refine LeO.bind ?_ (fun _ => ?_)
theorem qu_.mono : ∀ a0 a1 a2 a3 a4 a5 a6 a7 k, LeO (qu_.f k a0 a1 a2 a3 a4 a5 a6 a7) (qu_.f (k + 1) a0 a1 a2 a3 a4 a5 a6 a7) := by
 intro a0 a1 a2 a3 a4 a5 a6 a7 k
 obtain ⟨ih0, ih1⟩ := qu_.mono_l k
 unfold qu_.f
 repeat' first
   | (with_reducible exact ih0 _ _ _ _ _ _ _ _ _)
   | (with_reducible exact ih1 _ _ _ _ _ _ _ _ _)
   | (with_reducible exact LeO.refl _)
   | (with_reducible exact LeO.none _)
   | (with_reducible refine LeO.ite ?_ ?_)
   | (with_reducible refine LeO.bind ?_ (fun _ => ?_))
   | exact ih0 _ _ _ _ _ _ _ _ _
   | exact ih1 _ _ _ _ _ _ _ _ _
   | exact LeO.none _
   | refine LeO.ite ?_ ?_
   | refine LeO.bind ?_ (fun _ => ?_)
set_option maxHeartbeats 8000000 in
set_option maxRecDepth 100000 in
theorem qu_.calls (k : Nat) (P0_ : Nat → Prop) (u9000_ : Value) (l0 : List (S34)) (a1_0 : Int) (a1_1 : Int) (a1_2 : Int) (a1_3 : Int) (a1_4 : ByteArray) (A1_5 : Option Addr) (c1_5 : Nat) (l1_5 : List (S52)) (a2 : Int) (r1 : List (S34)) (r2 : Int) (w0 w : World) (hB : Below w0.heap.size w0 w) (ho0 : Kd.R k34 34 w w0.heap.size P0_ u9000_ l0) (hr1_5 : ∀ W_, Kept w W_ (fun k_ => P0_ k_) → Kd.C k52 W_ A1_5 l1_5.length l1_5) (hc1_5 : l1_5.length ≤ c1_5) (h : qu_.f k l0 a1_0 a1_1 a1_2 a1_3 a1_4 l1_5 a2 = some (r1, r2)) :
  Calls Try.prog 24 #[u9000_, .agg #[.int .i64 a1_0, .int .i64 a1_1, .int .i64 a1_2, .int .i64 a1_3, .string a1_4, .slice A1_5 l1_5.length c1_5], .int .i64 a2] w fun e w' => ∃ v0_ : Value, e = .returned (.tuple #[v0_, .int .i64 r2]) ∧ Kd.R k34 34 w' w0.heap.size (fun k_ => (P0_ k_ ∨ w.heap.size ≤ k_)) v0_ r1 ∧ Below w0.heap.size w0 w' ∧ Kept w w' (fun k_ => P0_ k_) := by
 have hu43 := Try.underlying43
 have hu34 := Try.underlying34
 have HO0 := qi_.mk (show Kd.R k34 34 w w0.heap.size (fun k_ => (P0_ k_ ∨ w.heap.size ≤ k_)) u9000_ l0 from Kd.R_mono ho0 (fun k_ hk => (.inl hk)))
 have HR1_5 := qi_.mk hr1_5
 have HC1_5 := qi_.mk hc1_5
 clear hr1_5 hc1_5
 have HK := qi_.mk (Kept.refl w (fun k_ => P0_ k_))
 have HW0 := qi_.mk hB.size
 have HB := qi_.mk hB
 clear hB
 have H : (if ([] : List (S34)).length + l0.length < 4398046511104 then ((some (([] : List (S34)) ++ l0 : List (S34))).bind fun y257 => (if a1_0 = 1 then (if a1_3 < 0 then (qu_.j0 k l0 y257 true a1_0 a1_1 a1_2 a1_3 a1_4 l1_5) else (qu_.j0 k l0 y257 (decide (a1_3 ≥ a2)) a1_0 a1_1 a1_2 a1_3 a1_4 l1_5)) else (if a1_2 < 0 then (qu_.j1 k l0 y257 true a1_0 a1_1 a1_2 a1_3 a1_4 l1_5) else (qu_.j1 k l0 y257 (decide (a1_2 ≥ (l0.length : Int))) a1_0 a1_1 a1_2 a1_3 a1_4 l1_5)))) else (none)) = some (r1, r2) := h
 clear h
 by_cases c4 : ([] : List (S34)).length + l0.length < 4398046511104
 ·rw [if_pos c4] at H
  have LMc4 := qi_.mk c4
  clear c4
  obtain ⟨y257, hy257⟩ : ∃ y_ : List (S34), y_ = (([] : List (S34)) ++ l0) := ⟨_, rfl⟩
  replace H : (if a1_0 = 1 then (if a1_3 < 0 then (qu_.j0 k l0 y257 true a1_0 a1_1 a1_2 a1_3 a1_4 l1_5) else (qu_.j0 k l0 y257 (decide (a1_3 ≥ a2)) a1_0 a1_1 a1_2 a1_3 a1_4 l1_5)) else (if a1_2 < 0 then (qu_.j1 k l0 y257 true a1_0 a1_1 a1_2 a1_3 a1_4 l1_5) else (qu_.j1 k l0 y257 (decide (a1_2 ≥ (l0.length : Int))) a1_0 a1_1 a1_2 a1_3 a1_4 l1_5))) = some (r1, r2) := by first | (rw [hy257]; with_reducible exact H) | (have H2_ := (Option.bind_some _ _).symm.trans H; rw [hy257]; with_reducible exact H2_) | (have H2_ := (Option.bind_some _ _).symm.trans H; with_reducible exact H2_) | with_reducible exact H | (rw [hy257]; exact H) | exact H
  have Ny257 := qi_.mk hy257
  clear hy257
  by_cases c5 : a1_0 = 1
  ·rw [if_pos c5] at H
   have c5b0 : (a1_0 == 1) = true := beq_iff_eq.mpr c5
   have c5b1 : (a1_0 != 1) = false := bne_eq_false_iff_eq.mpr c5
   clear c5
   have HC6 := qi_.mk H
   clear H
   go_enter Try.func24, Try.ntmps24
   go_upto_region 3 with (first | ((with_reducible refine gate_dst (N := 4) rfl ?_); (try (refine gate_guard (by rfl) ?_; dsimp only)); refine q1_ ?hg (N := 4) ?hd (cs := #[.int .i64 a1_0, .int .i64 a1_1, .int .i64 a1_2, .int .i64 a1_3, .string a1_4, .slice A1_5 l1_5.length c1_5]) (t := 43) ?hr ?_; (case hd => rfl); (case hg => rfl); (case hr => first | (go_simp; done) | (go_simp; rfl)); intro gb256 hg w7 hbox hb; have n0_ := qi_.mk (Kd.R_below (by (with_reducible repeat (first | apply Kd.qo_ | apply Kd.qp_)); exact HO0.out) hb); have n1_ := qi_.mk (Kept.below (S := (fun k_ => P0_ k_)) (by repeat (first | (with_reducible first | exact HK.out | apply Kept.alloc | apply Kept.drewN | apply Kept.drew) | exact HK.out)) hb); have n2_ := qi_.mk (qr_ (by repeat (first | (with_reducible first | exact HB.out | apply qe_ | apply qa_ | apply qc_) | exact HB.out)) hb); have n3_ := qi_.mk (hbox); have n4_ := qi_.mk ((by rw [hg]; exact (by first | exact HK.out.1 | exact (show Kept w _ (fun k_ => P0_ k_) from by repeat (first | (with_reducible first | exact HK.out | apply Kept.alloc | apply Kept.drewN | apply Kept.drew) | exact HK.out)).1) : w.heap.size ≤ gb256)); have n5_ := qi_.mk ((by rw [hg]; exact (qq_ (by repeat (first | (with_reducible first | exact HB.out | apply qe_ | apply qa_ | apply qc_) | exact HB.out))) : w0.heap.size ≤ gb256)); clear HO0; clear HK; clear HB; have HO0 := n0_; have HK := n1_; have HB := n2_; have BK256 := n3_; have GW256 := n4_; have GE256 := n5_; clear n0_ n1_ n2_ n3_ n4_ n5_; clear hb hbox hg; obtain ⟨Ao9, co9, eo9⟩ := Kd.R_slice HO0.out; subst eo9) | ((with_reducible refine gate_builtin (b := .append) (xs := #[.const (.slice none 0 0), .tmp 9]) rfl ?_); (try (refine gate_guard (by rfl) ?_; dsimp only)); at_builtin; refine Kd.R_append_rows k34 (w0 := w0) w0.heap.size rfl (.const (.slice none 0 0)) (.tmp 9) 24 34 (.agg #[(.int .i64 0), (.int .i64 0), (.int .i64 0), (.bool false), (.bool false)]) 32 rfl Try.underlying24 info34 rfl (by decide) (by omega) (.slice none 0 0) ([] : List (S34)) l0 _ _ _ (fun k_ => (P0_ k_ ∨ w.heap.size ≤ k_) ∧ some k_ ≠ (.slice Ao9 l0.length co9 : Value).ownBlock) (fun _ => False) rfl rfl ?aO ?aR (fun _ _ h => h) (fun _ h => h.elim) ?aF ?aB ?aS ?aL ?_; (case aR => repeat (first | exact (Kd.R_reads' HO0.out).2.2)); (case aB => exact (by repeat (first | (with_reducible first | exact HB.out | apply qe_ | apply qa_ | apply qc_ | refine qf_ ?_ GE256.out) | exact HB.out))); (case aF => exact (fun k_ hk => ⟨(.inr (Nat.le_trans (by first | exact HK.out.1 | exact (show Kept w _ (fun k_ => P0_ k_) from by repeat (first | (with_reducible first | exact HK.out | apply Kept.alloc | apply Kept.drewN | apply Kept.drew | refine Kept.setCell ?_ (.inr GW256.out) _) | exact HK.out)).1) hk)), Kd.fresh' (Kd.R_lt (by (with_reducible repeat (first | apply Kd.qo_ | apply Kd.qp_)); exact HO0.out)) k_ hk⟩)); (case aO => exact ((Kd.R_nil _ _ _ _ (fun k_ => (P0_ k_ ∨ w.heap.size ≤ k_) ∧ some k_ ≠ (.slice Ao9 l0.length co9 : Value).ownBlock)))); (case aS => exact (qq_ (by repeat (first | (with_reducible first | exact HB.out | apply qe_ | apply qa_ | apply qc_ | refine qf_ ?_ GE256.out) | exact HB.out)))); (case aL => have := LMc4.out; omega); intro v258 w8 ho hb hg hat; rw [← Ny257.out] at ho; have n0_ := qi_.mk (Kd.R_after (Kd.R_apart_nil (by (with_reducible repeat (first | apply Kd.qo_ | apply Kd.qp_)); exact HO0.out)) hg hat); have n1_ := qi_.mk (blk_grown (g := gb256) (o := .cells #[.int .i64 a1_0, .int .i64 a1_1, .int .i64 a1_2, .int .i64 a1_3, .string a1_4, .slice A1_5 l1_5.length c1_5] 43 (0, 0)) (by (with_reducible repeat (first | refine qd_ ?_ _ | refine qh_ ?_)); exact BK256.out) hg (by simp [Value.ownBlock])); have n2_ := qi_.mk (hb); have n3_ := qi_.mk (Kept.of_grown (S := (fun k_ => P0_ k_)) hg (by repeat (first | (with_reducible first | exact HK.out | apply Kept.alloc | apply Kept.drewN | apply Kept.drew | refine Kept.setCell ?_ (.inr GW256.out) _) | exact HK.out)) (fun k_ e_ => by simp [Value.ownBlock] at e_)); have n4_ := qi_.mk (ho); clear HO0; clear BK256; clear HB; clear HK; have HO0 := n0_; have BK256 := n1_; have HB := n2_; have HK := n3_; have HO259 := n4_; clear n0_ n1_ n2_ n3_ n4_; clear ho hb hg hat; have hcz10_0 : w8.cell? ⟨gb256, 0, none⟩ = some (.int .i64 a1_0) := (qb_ BK256.out 0).trans rfl; have hcz10_1 : w8.cell? ⟨gb256, 1, none⟩ = some (.int .i64 a1_1) := (qb_ BK256.out 1).trans rfl; have hcz10_2 : w8.cell? ⟨gb256, 2, none⟩ = some (.int .i64 a1_2) := (qb_ BK256.out 2).trans rfl; have hcz10_3 : w8.cell? ⟨gb256, 3, none⟩ = some (.int .i64 a1_3) := (qb_ BK256.out 3).trans rfl; have hcz10_4 : w8.cell? ⟨gb256, 4, none⟩ = some (.string a1_4) := (qb_ BK256.out 4).trans rfl; have hcz10_5 : w8.cell? ⟨gb256, 5, none⟩ = some (.slice A1_5 l1_5.length c1_5) := (qb_ BK256.out 5).trans rfl; have hfz10_0 := qg_ BK256.out 0; have hfz10_1 := qg_ BK256.out 1; have hfz10_2 := qg_ BK256.out 2; have hfz10_3 := qg_ BK256.out 3; have hfz10_4 := qg_ BK256.out 4; have hfz10_5 := qg_ BK256.out 5))
   repeat (go_quiet (first | ((with_reducible refine gate_dst (N := 4) rfl ?_); (try (refine gate_guard (by rfl) ?_; dsimp only)); refine q1_ ?hg (N := 4) ?hd (cs := #[.int .i64 a1_0, .int .i64 a1_1, .int .i64 a1_2, .int .i64 a1_3, .string a1_4, .slice A1_5 l1_5.length c1_5]) (t := 43) ?hr ?_; (case hd => rfl); (case hg => rfl); (case hr => first | (go_simp; done) | (go_simp; rfl)); intro gb256 hg w7 hbox hb; have n0_ := qi_.mk (Kd.R_below (by (with_reducible repeat (first | apply Kd.qo_ | apply Kd.qp_)); exact HO0.out) hb); have n1_ := qi_.mk (Kept.below (S := (fun k_ => P0_ k_)) (by repeat (first | (with_reducible first | exact HK.out | apply Kept.alloc | apply Kept.drewN | apply Kept.drew) | exact HK.out)) hb); have n2_ := qi_.mk (qr_ (by repeat (first | (with_reducible first | exact HB.out | apply qe_ | apply qa_ | apply qc_) | exact HB.out)) hb); have n3_ := qi_.mk (hbox); have n4_ := qi_.mk ((by rw [hg]; exact (by first | exact HK.out.1 | exact (show Kept w _ (fun k_ => P0_ k_) from by repeat (first | (with_reducible first | exact HK.out | apply Kept.alloc | apply Kept.drewN | apply Kept.drew) | exact HK.out)).1) : w.heap.size ≤ gb256)); have n5_ := qi_.mk ((by rw [hg]; exact (qq_ (by repeat (first | (with_reducible first | exact HB.out | apply qe_ | apply qa_ | apply qc_) | exact HB.out))) : w0.heap.size ≤ gb256)); clear HO0; clear HK; clear HB; have HO0 := n0_; have HK := n1_; have HB := n2_; have BK256 := n3_; have GW256 := n4_; have GE256 := n5_; clear n0_ n1_ n2_ n3_ n4_ n5_; clear hb hbox hg; obtain ⟨Ao9, co9, eo9⟩ := Kd.R_slice HO0.out; subst eo9) | ((with_reducible refine gate_builtin (b := .append) (xs := #[.const (.slice none 0 0), .tmp 9]) rfl ?_); (try (refine gate_guard (by rfl) ?_; dsimp only)); at_builtin; refine Kd.R_append_rows k34 (w0 := w0) w0.heap.size rfl (.const (.slice none 0 0)) (.tmp 9) 24 34 (.agg #[(.int .i64 0), (.int .i64 0), (.int .i64 0), (.bool false), (.bool false)]) 32 rfl Try.underlying24 info34 rfl (by decide) (by omega) (.slice none 0 0) ([] : List (S34)) l0 _ _ _ (fun k_ => (P0_ k_ ∨ w.heap.size ≤ k_) ∧ some k_ ≠ (.slice Ao9 l0.length co9 : Value).ownBlock) (fun _ => False) rfl rfl ?aO ?aR (fun _ _ h => h) (fun _ h => h.elim) ?aF ?aB ?aS ?aL ?_; (case aR => repeat (first | exact (Kd.R_reads' HO0.out).2.2)); (case aB => exact (by repeat (first | (with_reducible first | exact HB.out | apply qe_ | apply qa_ | apply qc_ | refine qf_ ?_ GE256.out) | exact HB.out))); (case aF => exact (fun k_ hk => ⟨(.inr (Nat.le_trans (by first | exact HK.out.1 | exact (show Kept w _ (fun k_ => P0_ k_) from by repeat (first | (with_reducible first | exact HK.out | apply Kept.alloc | apply Kept.drewN | apply Kept.drew | refine Kept.setCell ?_ (.inr GW256.out) _) | exact HK.out)).1) hk)), Kd.fresh' (Kd.R_lt (by (with_reducible repeat (first | apply Kd.qo_ | apply Kd.qp_)); exact HO0.out)) k_ hk⟩)); (case aO => exact ((Kd.R_nil _ _ _ _ (fun k_ => (P0_ k_ ∨ w.heap.size ≤ k_) ∧ some k_ ≠ (.slice Ao9 l0.length co9 : Value).ownBlock)))); (case aS => exact (qq_ (by repeat (first | (with_reducible first | exact HB.out | apply qe_ | apply qa_ | apply qc_ | refine qf_ ?_ GE256.out) | exact HB.out)))); (case aL => have := LMc4.out; omega); intro v258 w8 ho hb hg hat; rw [← Ny257.out] at ho; have n0_ := qi_.mk (Kd.R_after (Kd.R_apart_nil (by (with_reducible repeat (first | apply Kd.qo_ | apply Kd.qp_)); exact HO0.out)) hg hat); have n1_ := qi_.mk (blk_grown (g := gb256) (o := .cells #[.int .i64 a1_0, .int .i64 a1_1, .int .i64 a1_2, .int .i64 a1_3, .string a1_4, .slice A1_5 l1_5.length c1_5] 43 (0, 0)) (by (with_reducible repeat (first | refine qd_ ?_ _ | refine qh_ ?_)); exact BK256.out) hg (by simp [Value.ownBlock])); have n2_ := qi_.mk (hb); have n3_ := qi_.mk (Kept.of_grown (S := (fun k_ => P0_ k_)) hg (by repeat (first | (with_reducible first | exact HK.out | apply Kept.alloc | apply Kept.drewN | apply Kept.drew | refine Kept.setCell ?_ (.inr GW256.out) _) | exact HK.out)) (fun k_ e_ => by simp [Value.ownBlock] at e_)); have n4_ := qi_.mk (ho); clear HO0; clear BK256; clear HB; clear HK; have HO0 := n0_; have BK256 := n1_; have HB := n2_; have HK := n3_; have HO259 := n4_; clear n0_ n1_ n2_ n3_ n4_; clear ho hb hg hat; have hcz10_0 : w8.cell? ⟨gb256, 0, none⟩ = some (.int .i64 a1_0) := (qb_ BK256.out 0).trans rfl; have hcz10_1 : w8.cell? ⟨gb256, 1, none⟩ = some (.int .i64 a1_1) := (qb_ BK256.out 1).trans rfl; have hcz10_2 : w8.cell? ⟨gb256, 2, none⟩ = some (.int .i64 a1_2) := (qb_ BK256.out 2).trans rfl; have hcz10_3 : w8.cell? ⟨gb256, 3, none⟩ = some (.int .i64 a1_3) := (qb_ BK256.out 3).trans rfl; have hcz10_4 : w8.cell? ⟨gb256, 4, none⟩ = some (.string a1_4) := (qb_ BK256.out 4).trans rfl; have hcz10_5 : w8.cell? ⟨gb256, 5, none⟩ = some (.slice A1_5 l1_5.length c1_5) := (qb_ BK256.out 5).trans rfl; have hfz10_0 := qg_ BK256.out 0; have hfz10_1 := qg_ BK256.out 1; have hfz10_2 := qg_ BK256.out 2; have hfz10_3 := qg_ BK256.out 3; have hfz10_4 := qg_ BK256.out 4; have hfz10_5 := qg_ BK256.out 5)); go_upto_region 3 with (first | ((with_reducible refine gate_dst (N := 4) rfl ?_); (try (refine gate_guard (by rfl) ?_; dsimp only)); refine q1_ ?hg (N := 4) ?hd (cs := #[.int .i64 a1_0, .int .i64 a1_1, .int .i64 a1_2, .int .i64 a1_3, .string a1_4, .slice A1_5 l1_5.length c1_5]) (t := 43) ?hr ?_; (case hd => rfl); (case hg => rfl); (case hr => first | (go_simp; done) | (go_simp; rfl)); intro gb256 hg w7 hbox hb; have n0_ := qi_.mk (Kd.R_below (by (with_reducible repeat (first | apply Kd.qo_ | apply Kd.qp_)); exact HO0.out) hb); have n1_ := qi_.mk (Kept.below (S := (fun k_ => P0_ k_)) (by repeat (first | (with_reducible first | exact HK.out | apply Kept.alloc | apply Kept.drewN | apply Kept.drew) | exact HK.out)) hb); have n2_ := qi_.mk (qr_ (by repeat (first | (with_reducible first | exact HB.out | apply qe_ | apply qa_ | apply qc_) | exact HB.out)) hb); have n3_ := qi_.mk (hbox); have n4_ := qi_.mk ((by rw [hg]; exact (by first | exact HK.out.1 | exact (show Kept w _ (fun k_ => P0_ k_) from by repeat (first | (with_reducible first | exact HK.out | apply Kept.alloc | apply Kept.drewN | apply Kept.drew) | exact HK.out)).1) : w.heap.size ≤ gb256)); have n5_ := qi_.mk ((by rw [hg]; exact (qq_ (by repeat (first | (with_reducible first | exact HB.out | apply qe_ | apply qa_ | apply qc_) | exact HB.out))) : w0.heap.size ≤ gb256)); clear HO0; clear HK; clear HB; have HO0 := n0_; have HK := n1_; have HB := n2_; have BK256 := n3_; have GW256 := n4_; have GE256 := n5_; clear n0_ n1_ n2_ n3_ n4_ n5_; clear hb hbox hg; obtain ⟨Ao9, co9, eo9⟩ := Kd.R_slice HO0.out; subst eo9) | ((with_reducible refine gate_builtin (b := .append) (xs := #[.const (.slice none 0 0), .tmp 9]) rfl ?_); (try (refine gate_guard (by rfl) ?_; dsimp only)); at_builtin; refine Kd.R_append_rows k34 (w0 := w0) w0.heap.size rfl (.const (.slice none 0 0)) (.tmp 9) 24 34 (.agg #[(.int .i64 0), (.int .i64 0), (.int .i64 0), (.bool false), (.bool false)]) 32 rfl Try.underlying24 info34 rfl (by decide) (by omega) (.slice none 0 0) ([] : List (S34)) l0 _ _ _ (fun k_ => (P0_ k_ ∨ w.heap.size ≤ k_) ∧ some k_ ≠ (.slice Ao9 l0.length co9 : Value).ownBlock) (fun _ => False) rfl rfl ?aO ?aR (fun _ _ h => h) (fun _ h => h.elim) ?aF ?aB ?aS ?aL ?_; (case aR => repeat (first | exact (Kd.R_reads' HO0.out).2.2)); (case aB => exact (by repeat (first | (with_reducible first | exact HB.out | apply qe_ | apply qa_ | apply qc_ | refine qf_ ?_ GE256.out) | exact HB.out))); (case aF => exact (fun k_ hk => ⟨(.inr (Nat.le_trans (by first | exact HK.out.1 | exact (show Kept w _ (fun k_ => P0_ k_) from by repeat (first | (with_reducible first | exact HK.out | apply Kept.alloc | apply Kept.drewN | apply Kept.drew | refine Kept.setCell ?_ (.inr GW256.out) _) | exact HK.out)).1) hk)), Kd.fresh' (Kd.R_lt (by (with_reducible repeat (first | apply Kd.qo_ | apply Kd.qp_)); exact HO0.out)) k_ hk⟩)); (case aO => exact ((Kd.R_nil _ _ _ _ (fun k_ => (P0_ k_ ∨ w.heap.size ≤ k_) ∧ some k_ ≠ (.slice Ao9 l0.length co9 : Value).ownBlock)))); (case aS => exact (qq_ (by repeat (first | (with_reducible first | exact HB.out | apply qe_ | apply qa_ | apply qc_ | refine qf_ ?_ GE256.out) | exact HB.out)))); (case aL => have := LMc4.out; omega); intro v258 w8 ho hb hg hat; rw [← Ny257.out] at ho; have n0_ := qi_.mk (Kd.R_after (Kd.R_apart_nil (by (with_reducible repeat (first | apply Kd.qo_ | apply Kd.qp_)); exact HO0.out)) hg hat); have n1_ := qi_.mk (blk_grown (g := gb256) (o := .cells #[.int .i64 a1_0, .int .i64 a1_1, .int .i64 a1_2, .int .i64 a1_3, .string a1_4, .slice A1_5 l1_5.length c1_5] 43 (0, 0)) (by (with_reducible repeat (first | refine qd_ ?_ _ | refine qh_ ?_)); exact BK256.out) hg (by simp [Value.ownBlock])); have n2_ := qi_.mk (hb); have n3_ := qi_.mk (Kept.of_grown (S := (fun k_ => P0_ k_)) hg (by repeat (first | (with_reducible first | exact HK.out | apply Kept.alloc | apply Kept.drewN | apply Kept.drew | refine Kept.setCell ?_ (.inr GW256.out) _) | exact HK.out)) (fun k_ e_ => by simp [Value.ownBlock] at e_)); have n4_ := qi_.mk (ho); clear HO0; clear BK256; clear HB; clear HK; have HO0 := n0_; have BK256 := n1_; have HB := n2_; have HK := n3_; have HO259 := n4_; clear n0_ n1_ n2_ n3_ n4_; clear ho hb hg hat; have hcz10_0 : w8.cell? ⟨gb256, 0, none⟩ = some (.int .i64 a1_0) := (qb_ BK256.out 0).trans rfl; have hcz10_1 : w8.cell? ⟨gb256, 1, none⟩ = some (.int .i64 a1_1) := (qb_ BK256.out 1).trans rfl; have hcz10_2 : w8.cell? ⟨gb256, 2, none⟩ = some (.int .i64 a1_2) := (qb_ BK256.out 2).trans rfl; have hcz10_3 : w8.cell? ⟨gb256, 3, none⟩ = some (.int .i64 a1_3) := (qb_ BK256.out 3).trans rfl; have hcz10_4 : w8.cell? ⟨gb256, 4, none⟩ = some (.string a1_4) := (qb_ BK256.out 4).trans rfl; have hcz10_5 : w8.cell? ⟨gb256, 5, none⟩ = some (.slice A1_5 l1_5.length c1_5) := (qb_ BK256.out 5).trans rfl; have hfz10_0 := qg_ BK256.out 0; have hfz10_1 := qg_ BK256.out 1; have hfz10_2 := qg_ BK256.out 2; have hfz10_3 := qg_ BK256.out 3; have hfz10_4 := qg_ BK256.out 4; have hfz10_5 := qg_ BK256.out 5)))
   (try simp only [Act.put, List.setIfInBounds_toArray, List.set_cons_zero, List.set_cons_succ])
   go_cut [22] (fun v22 wc => ∃ (kq : Nat) (x22_5 : Bool), v22 = .bool x22_5 ∧ qi_ (qu_.j0 kq l0 y257 x22_5 a1_0 a1_1 a1_2 a1_3 a1_4 l1_5 = some (r1, r2)) ∧ qi_ (kq ≤ k) ∧ qi_ (Kd.R k34 34 wc w0.heap.size (fun k_ => (P0_ k_ ∨ w.heap.size ≤ k_) ∧ some k_ ≠ (v258 : Value).ownBlock) (.slice Ao9 l0.length co9) l0) ∧ qi_ (Kd.R k34 34 wc w0.heap.size (fun k_ => (P0_ k_ ∨ w.heap.size ≤ k_) ∧ some k_ ≠ ((.slice Ao9 l0.length co9) : Value).ownBlock) v258 y257) ∧ qi_ (wc.heap[gb256]? = some (.cells #[.int .i64 a1_0, .int .i64 a1_1, .int .i64 a1_2, .int .i64 a1_3, .string a1_4, (.slice A1_5 l1_5.length c1_5)] 43 (0, 0))) ∧ qi_ (Kept w wc (fun k_ => P0_ k_)) ∧ qi_ (Below w0.heap.size w0 wc))
   case first =>
    have H := HC6.out
    clear HC6
    by_cases c11 : a1_3 < 0
    ·rw [if_pos c11] at H
     have c11b0 : decide (a1_3 < 0) = true := decide_eq_true c11
     clear c11
     (first | rw [c11b0] | (simp only [i64_w, i32_w]; rw [c11b0]) | skip)
     have H' := qi_.mk H
     clear H
     have hcz12_0 : w8.cell? ⟨gb256, 0, none⟩ = some (.int .i64 a1_0) := (qb_ BK256.out 0).trans rfl
     have hcz12_1 : w8.cell? ⟨gb256, 1, none⟩ = some (.int .i64 a1_1) := (qb_ BK256.out 1).trans rfl
     have hcz12_2 : w8.cell? ⟨gb256, 2, none⟩ = some (.int .i64 a1_2) := (qb_ BK256.out 2).trans rfl
     have hcz12_3 : w8.cell? ⟨gb256, 3, none⟩ = some (.int .i64 a1_3) := (qb_ BK256.out 3).trans rfl
     have hcz12_4 : w8.cell? ⟨gb256, 4, none⟩ = some (.string a1_4) := (qb_ BK256.out 4).trans rfl
     have hcz12_5 : w8.cell? ⟨gb256, 5, none⟩ = some (.slice A1_5 l1_5.length c1_5) := (qb_ BK256.out 5).trans rfl
     have hfz12_0 := qg_ BK256.out 0
     have hfz12_1 := qg_ BK256.out 1
     have hfz12_2 := qg_ BK256.out 2
     have hfz12_3 := qg_ BK256.out 3
     have hfz12_4 := qg_ BK256.out 4
     have hfz12_5 := qg_ BK256.out 5
     go_wp2
     repeat (go_quiet (fail); try go_wp2)
     go_meet
     case rel => exact ⟨_, (true), (by first | rfl | (simp; done) | (simp [*]; done)), H', ⟨by first | omega | exact Nat.le_refl _⟩, ⟨by (with_reducible repeat (first | apply Kd.qo_ | apply Kd.qp_)); exact HO0.out⟩, ⟨by (with_reducible repeat (first | apply Kd.qo_ | apply Kd.qp_)); exact HO259.out⟩, ⟨by (with_reducible repeat (first | refine qd_ ?_ _ | refine qh_ ?_)); exact BK256.out⟩, ⟨by repeat (first | (with_reducible first | exact HK.out | apply Kept.alloc | apply Kept.drewN | apply Kept.drew | refine Kept.setCell ?_ (.inr GW256.out) _) | exact HK.out)⟩, ⟨by repeat (first | (with_reducible first | exact HB.out | apply qe_ | apply qa_ | apply qc_ | refine qf_ ?_ GE256.out) | exact HB.out)⟩⟩
    ·rw [if_neg c11] at H
     have c11b0 : decide (a1_3 < 0) = false := decide_eq_false c11
     clear c11
     (first | rw [c11b0] | (simp only [i64_w, i32_w]; rw [c11b0]) | skip)
     have H' := qi_.mk H
     clear H
     have hcz13_0 : w8.cell? ⟨gb256, 0, none⟩ = some (.int .i64 a1_0) := (qb_ BK256.out 0).trans rfl
     have hcz13_1 : w8.cell? ⟨gb256, 1, none⟩ = some (.int .i64 a1_1) := (qb_ BK256.out 1).trans rfl
     have hcz13_2 : w8.cell? ⟨gb256, 2, none⟩ = some (.int .i64 a1_2) := (qb_ BK256.out 2).trans rfl
     have hcz13_3 : w8.cell? ⟨gb256, 3, none⟩ = some (.int .i64 a1_3) := (qb_ BK256.out 3).trans rfl
     have hcz13_4 : w8.cell? ⟨gb256, 4, none⟩ = some (.string a1_4) := (qb_ BK256.out 4).trans rfl
     have hcz13_5 : w8.cell? ⟨gb256, 5, none⟩ = some (.slice A1_5 l1_5.length c1_5) := (qb_ BK256.out 5).trans rfl
     have hfz13_0 := qg_ BK256.out 0
     have hfz13_1 := qg_ BK256.out 1
     have hfz13_2 := qg_ BK256.out 2
     have hfz13_3 := qg_ BK256.out 3
     have hfz13_4 := qg_ BK256.out 4
     have hfz13_5 := qg_ BK256.out 5
     go_wp2
     repeat (go_quiet (fail); try go_wp2)
     go_meet
     case rel => exact ⟨_, (decide (a1_3 ≥ a2)), (by first | rfl | (simp; done) | (simp [*]; done)), H', ⟨by first | omega | exact Nat.le_refl _⟩, ⟨by (with_reducible repeat (first | apply Kd.qo_ | apply Kd.qp_)); exact HO0.out⟩, ⟨by (with_reducible repeat (first | apply Kd.qo_ | apply Kd.qp_)); exact HO259.out⟩, ⟨by (with_reducible repeat (first | refine qd_ ?_ _ | refine qh_ ?_)); exact BK256.out⟩, ⟨by repeat (first | (with_reducible first | exact HK.out | apply Kept.alloc | apply Kept.drewN | apply Kept.drew | refine Kept.setCell ?_ (.inr GW256.out) _) | exact HK.out)⟩, ⟨by repeat (first | (with_reducible first | exact HB.out | apply qe_ | apply qa_ | apply qc_ | refine qf_ ?_ GE256.out) | exact HB.out)⟩⟩
   case rest =>
    clear HC6
    try clear c1
    try clear c2
    try clear p2
    try clear c4
    try clear c5
    try clear c5b0
    try clear c5b1
    try clear c11
    try clear c11b0
    try clear hcz10_0
    try clear hcz10_1
    try clear hcz10_2
    try clear hcz10_3
    try clear hcz10_4
    try clear hcz10_5
    try clear hcz12_0
    try clear hcz12_1
    try clear hcz12_2
    try clear hcz12_3
    try clear hcz12_4
    try clear hcz12_5
    try clear hcz13_0
    try clear hcz13_1
    try clear hcz13_2
    try clear hcz13_3
    try clear hcz13_4
    try clear hcz13_5
    try clear hfz10_0
    try clear hfz10_1
    try clear hfz10_2
    try clear hfz10_3
    try clear hfz10_4
    try clear hfz10_5
    try clear hfz12_0
    try clear hfz12_1
    try clear hfz12_2
    try clear hfz12_3
    try clear hfz12_4
    try clear hfz12_5
    try clear hfz13_0
    try clear hfz13_1
    try clear hfz13_2
    try clear hfz13_3
    try clear hfz13_4
    try clear hfz13_5
    obtain ⟨kq, x22_5, rfl, HA, HJ5, HO_0, HO_8, BK256, HK, HB⟩ := hcut
    cases kq with
    | zero => exact absurd HA.out (by simp [qu_.j0])
    | succ kj5 =>
     have H := HA.out
     clear HA
     simp only [qu_.j0] at H
     by_cases c14 : x22_5 = true
     ·subst c14
      have H1 : (some (l0, 3)) = some (r1, r2) := by rw [if_pos rfl] at H; exact H
      clear H
      have H := H1
      clear H1
      simp only [Option.some.injEq, Prod.mk.injEq] at H
      obtain ⟨rfl, rfl⟩ := H
      go_wp2
      repeat (go_quiet (fail); try go_wp2)
      go_ret2
      exact ⟨_, by first | rfl | (simp [*] <;> rfl), by (with_reducible repeat (first | apply Kd.qo_ | apply Kd.qp_)); exact Kd.R_mono HO_0.out (fun _ hk => hk.1), by repeat (first | (with_reducible first | exact HB.out | apply qe_ | apply qa_ | apply qc_ | refine qf_ ?_ GE256.out) | exact HB.out), by repeat (first | (with_reducible first | exact HK.out | apply Kept.alloc | apply Kept.drewN | apply Kept.drew | refine Kept.setCell ?_ (.inr GW256.out) _) | exact HK.out)⟩
     ·replace c14 := Bool.eq_false_iff.mpr c14
      subst c14
      have H1 : (if (l0.length : Int) ≥ 12 then (some (l0, 14)) else (if y257.length < 4398046511104 then (some ((y257 ++ [(⟨a1_1, a1_3, 1, false, false⟩ : S34)]), 0)) else (none))) = some (r1, r2) := by rw [if_neg (show ¬ (false = true) by decide)] at H; exact H
      clear H
      have H := H1
      clear H1
      by_cases c15 : (l0.length : Int) ≥ 12
      ·rw [if_pos c15] at H
       have c15b0 : decide (12 ≤ (l0.length : Int)) = true := decide_eq_true c15
       have c15b1 : decide (12 ≤ l0.length) = true := decide_eq_true (by omega)
       clear c15
       simp only [Option.some.injEq, Prod.mk.injEq] at H
       obtain ⟨rfl, rfl⟩ := H
       go_wp2
       repeat (go_quiet (fail); try go_wp2)
       go_ret2
       exact ⟨_, by first | rfl | (simp [*] <;> rfl), by (with_reducible repeat (first | apply Kd.qo_ | apply Kd.qp_)); exact Kd.R_mono HO_0.out (fun _ hk => hk.1), by repeat (first | (with_reducible first | exact HB.out | apply qe_ | apply qa_ | apply qc_ | refine qf_ ?_ GE256.out) | exact HB.out), by repeat (first | (with_reducible first | exact HK.out | apply Kept.alloc | apply Kept.drewN | apply Kept.drew | refine Kept.setCell ?_ (.inr GW256.out) _) | exact HK.out)⟩
      ·rw [if_neg c15] at H
       have c15b0 : decide (12 ≤ (l0.length : Int)) = false := decide_eq_false c15
       have c15b1 : decide (12 ≤ l0.length) = false := decide_eq_false (by omega)
       clear c15
       by_cases c16 : y257.length < 4398046511104
       ·rw [if_pos c16] at H
        have LMc16 := qi_.mk c16
        clear c16
        obtain ⟨y260, hy260⟩ : ∃ y_ : List (S34), y_ = (y257 ++ [(⟨a1_1, a1_3, 1, false, false⟩ : S34)]) := ⟨_, rfl⟩
        replace H : (some (y260, 0)) = some (r1, r2) := by first | (rw [hy260]; with_reducible exact H) | (have H2_ := (Option.bind_some _ _).symm.trans H; rw [hy260]; with_reducible exact H2_) | (have H2_ := (Option.bind_some _ _).symm.trans H; with_reducible exact H2_) | with_reducible exact H | (rw [hy260]; exact H) | exact H
        have Ny260 := qi_.mk hy260
        clear hy260
        simp only [Option.some.injEq, Prod.mk.injEq] at H
        obtain ⟨rfl, rfl⟩ := H
        have hcz17_0 : wc.cell? ⟨gb256, 0, none⟩ = some (.int .i64 a1_0) := (qb_ BK256.out 0).trans rfl
        have hcz17_1 : wc.cell? ⟨gb256, 1, none⟩ = some (.int .i64 a1_1) := (qb_ BK256.out 1).trans rfl
        have hcz17_2 : wc.cell? ⟨gb256, 2, none⟩ = some (.int .i64 a1_2) := (qb_ BK256.out 2).trans rfl
        have hcz17_3 : wc.cell? ⟨gb256, 3, none⟩ = some (.int .i64 a1_3) := (qb_ BK256.out 3).trans rfl
        have hcz17_4 : wc.cell? ⟨gb256, 4, none⟩ = some (.string a1_4) := (qb_ BK256.out 4).trans rfl
        have hcz17_5 : wc.cell? ⟨gb256, 5, none⟩ = some (.slice A1_5 l1_5.length c1_5) := (qb_ BK256.out 5).trans rfl
        have hfz17_0 := qg_ BK256.out 0
        have hfz17_1 := qg_ BK256.out 1
        have hfz17_2 := qg_ BK256.out 2
        have hfz17_3 := qg_ BK256.out 3
        have hfz17_4 := qg_ BK256.out 4
        have hfz17_5 := qg_ BK256.out 5
        go_wp2_with (first | ((with_reducible refine gate_builtin (b := .append) (xs := #[.tmp 28, .tmp 34]) rfl ?_); (try (refine gate_guard (by rfl) ?_; dsimp only)); at_builtin; refine Kd.R_append k34 (w0 := w0) w0.heap.size rfl (.tmp 28) (.tmp 34) 24 34 (.agg #[(.int .i64 0), (.int .i64 0), (.int .i64 0), (.bool false), (.bool false)]) 32 rfl Try.underlying24 info34 rfl (by decide) (by omega) v258 y257 (⟨a1_1, a1_3, 1, false, false⟩ : S34) [.int .i64 a1_1, .int .i64 a1_3, .int .i64 1, .bool false, .bool false] (fun k_ => (P0_ k_ ∨ w.heap.size ≤ k_) ∧ some k_ ≠ (.slice Ao9 l0.length co9 : Value).ownBlock) (fun _ => False) rfl rfl ?aP (fun _ hk => hk.elim) ?aF ?aO ?aB ?aS ?aL ?_; (case aP => exact k34_mkM _ _ _ (⟨a1_1, a1_3, 1, false, false⟩ : S34)); (case aB => exact (by repeat (first | (with_reducible first | exact HB.out | apply qe_ | apply qa_ | apply qc_ | refine qf_ ?_ GE256.out) | exact HB.out))); (case aF => exact (fun k_ hk => ⟨(.inr (Nat.le_trans (by first | exact HK.out.1 | exact (show Kept w _ (fun k_ => P0_ k_) from by repeat (first | (with_reducible first | exact HK.out | apply Kept.alloc | apply Kept.drewN | apply Kept.drew | refine Kept.setCell ?_ (.inr GW256.out) _) | exact HK.out)).1) hk)), Kd.fresh' (Kd.R_lt (by (with_reducible repeat (first | apply Kd.qo_ | apply Kd.qp_)); exact HO_0.out)) k_ hk⟩)); (case aO => exact (by (with_reducible repeat (first | apply Kd.qo_ | apply Kd.qp_)); exact HO_8.out)); (case aS => exact (qq_ (by repeat (first | (with_reducible first | exact HB.out | apply qe_ | apply qa_ | apply qc_ | refine qf_ ?_ GE256.out) | exact HB.out)))); (case aL => have := LMc16.out; omega); intro v261 w18 ho hb hg hat; rw [← Ny260.out] at ho; have n0_ := qi_.mk (Kd.R_after (ok := (fun k_ => (P0_ k_ ∨ w.heap.size ≤ k_))) (by (with_reducible repeat (first | apply Kd.qo_ | apply Kd.qp_)); exact HO_0.out) hg hat); have n1_ := qi_.mk (blk_grown (g := gb256) (o := .cells #[.int .i64 a1_0, .int .i64 a1_1, .int .i64 a1_2, .int .i64 a1_3, .string a1_4, .slice A1_5 l1_5.length c1_5] 43 (0, 0)) (by (with_reducible repeat (first | refine qd_ ?_ _ | refine qh_ ?_)); exact BK256.out) hg (Kd.R_ne HO_8.out BK256.out (by decide))); have n2_ := qi_.mk (hb); have n3_ := qi_.mk (Kept.of_grown (S := (fun k_ => P0_ k_)) hg (by repeat (first | (with_reducible first | exact HK.out | apply Kept.alloc | apply Kept.drewN | apply Kept.drew | refine Kept.setCell ?_ (.inr GW256.out) _) | exact HK.out)) (fun k_ e_ => (HO_8.out.1 k_ e_).1)); have n4_ := qi_.mk (ho); clear HO_0; clear BK256; clear HB; clear HK; clear HO_8; have HO_0 := n0_; have BK256 := n1_; have HB := n2_; have HK := n3_; have HO262 := n4_; clear n0_ n1_ n2_ n3_ n4_; clear ho hb hg hat))
        repeat (go_quiet (first | ((with_reducible refine gate_builtin (b := .append) (xs := #[.tmp 28, .tmp 34]) rfl ?_); (try (refine gate_guard (by rfl) ?_; dsimp only)); at_builtin; refine Kd.R_append k34 (w0 := w0) w0.heap.size rfl (.tmp 28) (.tmp 34) 24 34 (.agg #[(.int .i64 0), (.int .i64 0), (.int .i64 0), (.bool false), (.bool false)]) 32 rfl Try.underlying24 info34 rfl (by decide) (by omega) v258 y257 (⟨a1_1, a1_3, 1, false, false⟩ : S34) [.int .i64 a1_1, .int .i64 a1_3, .int .i64 1, .bool false, .bool false] (fun k_ => (P0_ k_ ∨ w.heap.size ≤ k_) ∧ some k_ ≠ (.slice Ao9 l0.length co9 : Value).ownBlock) (fun _ => False) rfl rfl ?aP (fun _ hk => hk.elim) ?aF ?aO ?aB ?aS ?aL ?_; (case aP => exact k34_mkM _ _ _ (⟨a1_1, a1_3, 1, false, false⟩ : S34)); (case aB => exact (by repeat (first | (with_reducible first | exact HB.out | apply qe_ | apply qa_ | apply qc_ | refine qf_ ?_ GE256.out) | exact HB.out))); (case aF => exact (fun k_ hk => ⟨(.inr (Nat.le_trans (by first | exact HK.out.1 | exact (show Kept w _ (fun k_ => P0_ k_) from by repeat (first | (with_reducible first | exact HK.out | apply Kept.alloc | apply Kept.drewN | apply Kept.drew | refine Kept.setCell ?_ (.inr GW256.out) _) | exact HK.out)).1) hk)), Kd.fresh' (Kd.R_lt (by (with_reducible repeat (first | apply Kd.qo_ | apply Kd.qp_)); exact HO_0.out)) k_ hk⟩)); (case aO => exact (by (with_reducible repeat (first | apply Kd.qo_ | apply Kd.qp_)); exact HO_8.out)); (case aS => exact (qq_ (by repeat (first | (with_reducible first | exact HB.out | apply qe_ | apply qa_ | apply qc_ | refine qf_ ?_ GE256.out) | exact HB.out)))); (case aL => have := LMc16.out; omega); intro v261 w18 ho hb hg hat; rw [← Ny260.out] at ho; have n0_ := qi_.mk (Kd.R_after (ok := (fun k_ => (P0_ k_ ∨ w.heap.size ≤ k_))) (by (with_reducible repeat (first | apply Kd.qo_ | apply Kd.qp_)); exact HO_0.out) hg hat); have n1_ := qi_.mk (blk_grown (g := gb256) (o := .cells #[.int .i64 a1_0, .int .i64 a1_1, .int .i64 a1_2, .int .i64 a1_3, .string a1_4, .slice A1_5 l1_5.length c1_5] 43 (0, 0)) (by (with_reducible repeat (first | refine qd_ ?_ _ | refine qh_ ?_)); exact BK256.out) hg (Kd.R_ne HO_8.out BK256.out (by decide))); have n2_ := qi_.mk (hb); have n3_ := qi_.mk (Kept.of_grown (S := (fun k_ => P0_ k_)) hg (by repeat (first | (with_reducible first | exact HK.out | apply Kept.alloc | apply Kept.drewN | apply Kept.drew | refine Kept.setCell ?_ (.inr GW256.out) _) | exact HK.out)) (fun k_ e_ => (HO_8.out.1 k_ e_).1)); have n4_ := qi_.mk (ho); clear HO_0; clear BK256; clear HB; clear HK; clear HO_8; have HO_0 := n0_; have BK256 := n1_; have HB := n2_; have HK := n3_; have HO262 := n4_; clear n0_ n1_ n2_ n3_ n4_; clear ho hb hg hat)); try go_wp2_with (first | ((with_reducible refine gate_builtin (b := .append) (xs := #[.tmp 28, .tmp 34]) rfl ?_); (try (refine gate_guard (by rfl) ?_; dsimp only)); at_builtin; refine Kd.R_append k34 (w0 := w0) w0.heap.size rfl (.tmp 28) (.tmp 34) 24 34 (.agg #[(.int .i64 0), (.int .i64 0), (.int .i64 0), (.bool false), (.bool false)]) 32 rfl Try.underlying24 info34 rfl (by decide) (by omega) v258 y257 (⟨a1_1, a1_3, 1, false, false⟩ : S34) [.int .i64 a1_1, .int .i64 a1_3, .int .i64 1, .bool false, .bool false] (fun k_ => (P0_ k_ ∨ w.heap.size ≤ k_) ∧ some k_ ≠ (.slice Ao9 l0.length co9 : Value).ownBlock) (fun _ => False) rfl rfl ?aP (fun _ hk => hk.elim) ?aF ?aO ?aB ?aS ?aL ?_; (case aP => exact k34_mkM _ _ _ (⟨a1_1, a1_3, 1, false, false⟩ : S34)); (case aB => exact (by repeat (first | (with_reducible first | exact HB.out | apply qe_ | apply qa_ | apply qc_ | refine qf_ ?_ GE256.out) | exact HB.out))); (case aF => exact (fun k_ hk => ⟨(.inr (Nat.le_trans (by first | exact HK.out.1 | exact (show Kept w _ (fun k_ => P0_ k_) from by repeat (first | (with_reducible first | exact HK.out | apply Kept.alloc | apply Kept.drewN | apply Kept.drew | refine Kept.setCell ?_ (.inr GW256.out) _) | exact HK.out)).1) hk)), Kd.fresh' (Kd.R_lt (by (with_reducible repeat (first | apply Kd.qo_ | apply Kd.qp_)); exact HO_0.out)) k_ hk⟩)); (case aO => exact (by (with_reducible repeat (first | apply Kd.qo_ | apply Kd.qp_)); exact HO_8.out)); (case aS => exact (qq_ (by repeat (first | (with_reducible first | exact HB.out | apply qe_ | apply qa_ | apply qc_ | refine qf_ ?_ GE256.out) | exact HB.out)))); (case aL => have := LMc16.out; omega); intro v261 w18 ho hb hg hat; rw [← Ny260.out] at ho; have n0_ := qi_.mk (Kd.R_after (ok := (fun k_ => (P0_ k_ ∨ w.heap.size ≤ k_))) (by (with_reducible repeat (first | apply Kd.qo_ | apply Kd.qp_)); exact HO_0.out) hg hat); have n1_ := qi_.mk (blk_grown (g := gb256) (o := .cells #[.int .i64 a1_0, .int .i64 a1_1, .int .i64 a1_2, .int .i64 a1_3, .string a1_4, .slice A1_5 l1_5.length c1_5] 43 (0, 0)) (by (with_reducible repeat (first | refine qd_ ?_ _ | refine qh_ ?_)); exact BK256.out) hg (Kd.R_ne HO_8.out BK256.out (by decide))); have n2_ := qi_.mk (hb); have n3_ := qi_.mk (Kept.of_grown (S := (fun k_ => P0_ k_)) hg (by repeat (first | (with_reducible first | exact HK.out | apply Kept.alloc | apply Kept.drewN | apply Kept.drew | refine Kept.setCell ?_ (.inr GW256.out) _) | exact HK.out)) (fun k_ e_ => (HO_8.out.1 k_ e_).1)); have n4_ := qi_.mk (ho); clear HO_0; clear BK256; clear HB; clear HK; clear HO_8; have HO_0 := n0_; have BK256 := n1_; have HB := n2_; have HK := n3_; have HO262 := n4_; clear n0_ n1_ n2_ n3_ n4_; clear ho hb hg hat)))
        go_ret2
        exact ⟨_, by first | rfl | (simp [*] <;> rfl), by (with_reducible repeat (first | apply Kd.qo_ | apply Kd.qp_)); exact Kd.R_mono HO262.out (fun _ hk => hk.1), by repeat (first | (with_reducible first | exact HB.out | apply qe_ | apply qa_ | apply qc_ | refine qf_ ?_ GE256.out) | exact HB.out), by repeat (first | (with_reducible first | exact HK.out | apply Kept.alloc | apply Kept.drewN | apply Kept.drew | refine Kept.setCell ?_ (.inr GW256.out) _) | exact HK.out)⟩
       ·rw [if_neg c16] at H
        exact absurd H (by simp)
  ·rw [if_neg c5] at H
   have c5b0 : (a1_0 == 1) = false := beq_eq_false_iff_ne.mpr c5
   have c5b1 : (a1_0 != 1) = true := bne_iff_ne.mpr c5
   have HC19 := qi_.mk H
   clear H
   go_enter Try.func24, Try.ntmps24
   go_upto_region 8 with (first | ((with_reducible refine gate_dst (N := 4) rfl ?_); (try (refine gate_guard (by rfl) ?_; dsimp only)); refine q1_ ?hg (N := 4) ?hd (cs := #[.int .i64 a1_0, .int .i64 a1_1, .int .i64 a1_2, .int .i64 a1_3, .string a1_4, .slice A1_5 l1_5.length c1_5]) (t := 43) ?hr ?_; (case hd => rfl); (case hg => rfl); (case hr => first | (go_simp; done) | (go_simp; rfl)); intro gb256 hg w20 hbox hb; have n0_ := qi_.mk (Kd.R_below (by (with_reducible repeat (first | apply Kd.qo_ | apply Kd.qp_)); exact HO0.out) hb); have n1_ := qi_.mk (Kept.below (S := (fun k_ => P0_ k_)) (by repeat (first | (with_reducible first | exact HK.out | apply Kept.alloc | apply Kept.drewN | apply Kept.drew) | exact HK.out)) hb); have n2_ := qi_.mk (qr_ (by repeat (first | (with_reducible first | exact HB.out | apply qe_ | apply qa_ | apply qc_) | exact HB.out)) hb); have n3_ := qi_.mk (hbox); have n4_ := qi_.mk ((by rw [hg]; exact (by first | exact HK.out.1 | exact (show Kept w _ (fun k_ => P0_ k_) from by repeat (first | (with_reducible first | exact HK.out | apply Kept.alloc | apply Kept.drewN | apply Kept.drew) | exact HK.out)).1) : w.heap.size ≤ gb256)); have n5_ := qi_.mk ((by rw [hg]; exact (qq_ (by repeat (first | (with_reducible first | exact HB.out | apply qe_ | apply qa_ | apply qc_) | exact HB.out))) : w0.heap.size ≤ gb256)); clear HO0; clear HK; clear HB; have HO0 := n0_; have HK := n1_; have HB := n2_; have BK256 := n3_; have GW256 := n4_; have GE256 := n5_; clear n0_ n1_ n2_ n3_ n4_ n5_; clear hb hbox hg; obtain ⟨Ao22, co22, eo22⟩ := Kd.R_slice HO0.out; subst eo22) | ((with_reducible refine gate_builtin (b := .append) (xs := #[.const (.slice none 0 0), .tmp 9]) rfl ?_); (try (refine gate_guard (by rfl) ?_; dsimp only)); at_builtin; refine Kd.R_append_rows k34 (w0 := w0) w0.heap.size rfl (.const (.slice none 0 0)) (.tmp 9) 24 34 (.agg #[(.int .i64 0), (.int .i64 0), (.int .i64 0), (.bool false), (.bool false)]) 32 rfl Try.underlying24 info34 rfl (by decide) (by omega) (.slice none 0 0) ([] : List (S34)) l0 _ _ _ (fun k_ => (P0_ k_ ∨ w.heap.size ≤ k_) ∧ some k_ ≠ (.slice Ao22 l0.length co22 : Value).ownBlock) (fun _ => False) rfl rfl ?aO ?aR (fun _ _ h => h) (fun _ h => h.elim) ?aF ?aB ?aS ?aL ?_; (case aR => repeat (first | exact (Kd.R_reads' HO0.out).2.2)); (case aB => exact (by repeat (first | (with_reducible first | exact HB.out | apply qe_ | apply qa_ | apply qc_ | refine qf_ ?_ GE256.out) | exact HB.out))); (case aF => exact (fun k_ hk => ⟨(.inr (Nat.le_trans (by first | exact HK.out.1 | exact (show Kept w _ (fun k_ => P0_ k_) from by repeat (first | (with_reducible first | exact HK.out | apply Kept.alloc | apply Kept.drewN | apply Kept.drew | refine Kept.setCell ?_ (.inr GW256.out) _) | exact HK.out)).1) hk)), Kd.fresh' (Kd.R_lt (by (with_reducible repeat (first | apply Kd.qo_ | apply Kd.qp_)); exact HO0.out)) k_ hk⟩)); (case aO => exact ((Kd.R_nil _ _ _ _ (fun k_ => (P0_ k_ ∨ w.heap.size ≤ k_) ∧ some k_ ≠ (.slice Ao22 l0.length co22 : Value).ownBlock)))); (case aS => exact (qq_ (by repeat (first | (with_reducible first | exact HB.out | apply qe_ | apply qa_ | apply qc_ | refine qf_ ?_ GE256.out) | exact HB.out)))); (case aL => have := LMc4.out; omega); intro v258 w21 ho hb hg hat; rw [← Ny257.out] at ho; have n0_ := qi_.mk (Kd.R_after (Kd.R_apart_nil (by (with_reducible repeat (first | apply Kd.qo_ | apply Kd.qp_)); exact HO0.out)) hg hat); have n1_ := qi_.mk (blk_grown (g := gb256) (o := .cells #[.int .i64 a1_0, .int .i64 a1_1, .int .i64 a1_2, .int .i64 a1_3, .string a1_4, .slice A1_5 l1_5.length c1_5] 43 (0, 0)) (by (with_reducible repeat (first | refine qd_ ?_ _ | refine qh_ ?_)); exact BK256.out) hg (by simp [Value.ownBlock])); have n2_ := qi_.mk (hb); have n3_ := qi_.mk (Kept.of_grown (S := (fun k_ => P0_ k_)) hg (by repeat (first | (with_reducible first | exact HK.out | apply Kept.alloc | apply Kept.drewN | apply Kept.drew | refine Kept.setCell ?_ (.inr GW256.out) _) | exact HK.out)) (fun k_ e_ => by simp [Value.ownBlock] at e_)); have n4_ := qi_.mk (ho); clear HO0; clear BK256; clear HB; clear HK; have HO0 := n0_; have BK256 := n1_; have HB := n2_; have HK := n3_; have HO259 := n4_; clear n0_ n1_ n2_ n3_ n4_; clear ho hb hg hat; have hcz23_0 : w21.cell? ⟨gb256, 0, none⟩ = some (.int .i64 a1_0) := (qb_ BK256.out 0).trans rfl; have hcz23_1 : w21.cell? ⟨gb256, 1, none⟩ = some (.int .i64 a1_1) := (qb_ BK256.out 1).trans rfl; have hcz23_2 : w21.cell? ⟨gb256, 2, none⟩ = some (.int .i64 a1_2) := (qb_ BK256.out 2).trans rfl; have hcz23_3 : w21.cell? ⟨gb256, 3, none⟩ = some (.int .i64 a1_3) := (qb_ BK256.out 3).trans rfl; have hcz23_4 : w21.cell? ⟨gb256, 4, none⟩ = some (.string a1_4) := (qb_ BK256.out 4).trans rfl; have hcz23_5 : w21.cell? ⟨gb256, 5, none⟩ = some (.slice A1_5 l1_5.length c1_5) := (qb_ BK256.out 5).trans rfl; have hfz23_0 := qg_ BK256.out 0; have hfz23_1 := qg_ BK256.out 1; have hfz23_2 := qg_ BK256.out 2; have hfz23_3 := qg_ BK256.out 3; have hfz23_4 := qg_ BK256.out 4; have hfz23_5 := qg_ BK256.out 5))
   repeat (go_quiet (first | ((with_reducible refine gate_dst (N := 4) rfl ?_); (try (refine gate_guard (by rfl) ?_; dsimp only)); refine q1_ ?hg (N := 4) ?hd (cs := #[.int .i64 a1_0, .int .i64 a1_1, .int .i64 a1_2, .int .i64 a1_3, .string a1_4, .slice A1_5 l1_5.length c1_5]) (t := 43) ?hr ?_; (case hd => rfl); (case hg => rfl); (case hr => first | (go_simp; done) | (go_simp; rfl)); intro gb256 hg w20 hbox hb; have n0_ := qi_.mk (Kd.R_below (by (with_reducible repeat (first | apply Kd.qo_ | apply Kd.qp_)); exact HO0.out) hb); have n1_ := qi_.mk (Kept.below (S := (fun k_ => P0_ k_)) (by repeat (first | (with_reducible first | exact HK.out | apply Kept.alloc | apply Kept.drewN | apply Kept.drew) | exact HK.out)) hb); have n2_ := qi_.mk (qr_ (by repeat (first | (with_reducible first | exact HB.out | apply qe_ | apply qa_ | apply qc_) | exact HB.out)) hb); have n3_ := qi_.mk (hbox); have n4_ := qi_.mk ((by rw [hg]; exact (by first | exact HK.out.1 | exact (show Kept w _ (fun k_ => P0_ k_) from by repeat (first | (with_reducible first | exact HK.out | apply Kept.alloc | apply Kept.drewN | apply Kept.drew) | exact HK.out)).1) : w.heap.size ≤ gb256)); have n5_ := qi_.mk ((by rw [hg]; exact (qq_ (by repeat (first | (with_reducible first | exact HB.out | apply qe_ | apply qa_ | apply qc_) | exact HB.out))) : w0.heap.size ≤ gb256)); clear HO0; clear HK; clear HB; have HO0 := n0_; have HK := n1_; have HB := n2_; have BK256 := n3_; have GW256 := n4_; have GE256 := n5_; clear n0_ n1_ n2_ n3_ n4_ n5_; clear hb hbox hg; obtain ⟨Ao22, co22, eo22⟩ := Kd.R_slice HO0.out; subst eo22) | ((with_reducible refine gate_builtin (b := .append) (xs := #[.const (.slice none 0 0), .tmp 9]) rfl ?_); (try (refine gate_guard (by rfl) ?_; dsimp only)); at_builtin; refine Kd.R_append_rows k34 (w0 := w0) w0.heap.size rfl (.const (.slice none 0 0)) (.tmp 9) 24 34 (.agg #[(.int .i64 0), (.int .i64 0), (.int .i64 0), (.bool false), (.bool false)]) 32 rfl Try.underlying24 info34 rfl (by decide) (by omega) (.slice none 0 0) ([] : List (S34)) l0 _ _ _ (fun k_ => (P0_ k_ ∨ w.heap.size ≤ k_) ∧ some k_ ≠ (.slice Ao22 l0.length co22 : Value).ownBlock) (fun _ => False) rfl rfl ?aO ?aR (fun _ _ h => h) (fun _ h => h.elim) ?aF ?aB ?aS ?aL ?_; (case aR => repeat (first | exact (Kd.R_reads' HO0.out).2.2)); (case aB => exact (by repeat (first | (with_reducible first | exact HB.out | apply qe_ | apply qa_ | apply qc_ | refine qf_ ?_ GE256.out) | exact HB.out))); (case aF => exact (fun k_ hk => ⟨(.inr (Nat.le_trans (by first | exact HK.out.1 | exact (show Kept w _ (fun k_ => P0_ k_) from by repeat (first | (with_reducible first | exact HK.out | apply Kept.alloc | apply Kept.drewN | apply Kept.drew | refine Kept.setCell ?_ (.inr GW256.out) _) | exact HK.out)).1) hk)), Kd.fresh' (Kd.R_lt (by (with_reducible repeat (first | apply Kd.qo_ | apply Kd.qp_)); exact HO0.out)) k_ hk⟩)); (case aO => exact ((Kd.R_nil _ _ _ _ (fun k_ => (P0_ k_ ∨ w.heap.size ≤ k_) ∧ some k_ ≠ (.slice Ao22 l0.length co22 : Value).ownBlock)))); (case aS => exact (qq_ (by repeat (first | (with_reducible first | exact HB.out | apply qe_ | apply qa_ | apply qc_ | refine qf_ ?_ GE256.out) | exact HB.out)))); (case aL => have := LMc4.out; omega); intro v258 w21 ho hb hg hat; rw [← Ny257.out] at ho; have n0_ := qi_.mk (Kd.R_after (Kd.R_apart_nil (by (with_reducible repeat (first | apply Kd.qo_ | apply Kd.qp_)); exact HO0.out)) hg hat); have n1_ := qi_.mk (blk_grown (g := gb256) (o := .cells #[.int .i64 a1_0, .int .i64 a1_1, .int .i64 a1_2, .int .i64 a1_3, .string a1_4, .slice A1_5 l1_5.length c1_5] 43 (0, 0)) (by (with_reducible repeat (first | refine qd_ ?_ _ | refine qh_ ?_)); exact BK256.out) hg (by simp [Value.ownBlock])); have n2_ := qi_.mk (hb); have n3_ := qi_.mk (Kept.of_grown (S := (fun k_ => P0_ k_)) hg (by repeat (first | (with_reducible first | exact HK.out | apply Kept.alloc | apply Kept.drewN | apply Kept.drew | refine Kept.setCell ?_ (.inr GW256.out) _) | exact HK.out)) (fun k_ e_ => by simp [Value.ownBlock] at e_)); have n4_ := qi_.mk (ho); clear HO0; clear BK256; clear HB; clear HK; have HO0 := n0_; have BK256 := n1_; have HB := n2_; have HK := n3_; have HO259 := n4_; clear n0_ n1_ n2_ n3_ n4_; clear ho hb hg hat; have hcz23_0 : w21.cell? ⟨gb256, 0, none⟩ = some (.int .i64 a1_0) := (qb_ BK256.out 0).trans rfl; have hcz23_1 : w21.cell? ⟨gb256, 1, none⟩ = some (.int .i64 a1_1) := (qb_ BK256.out 1).trans rfl; have hcz23_2 : w21.cell? ⟨gb256, 2, none⟩ = some (.int .i64 a1_2) := (qb_ BK256.out 2).trans rfl; have hcz23_3 : w21.cell? ⟨gb256, 3, none⟩ = some (.int .i64 a1_3) := (qb_ BK256.out 3).trans rfl; have hcz23_4 : w21.cell? ⟨gb256, 4, none⟩ = some (.string a1_4) := (qb_ BK256.out 4).trans rfl; have hcz23_5 : w21.cell? ⟨gb256, 5, none⟩ = some (.slice A1_5 l1_5.length c1_5) := (qb_ BK256.out 5).trans rfl; have hfz23_0 := qg_ BK256.out 0; have hfz23_1 := qg_ BK256.out 1; have hfz23_2 := qg_ BK256.out 2; have hfz23_3 := qg_ BK256.out 3; have hfz23_4 := qg_ BK256.out 4; have hfz23_5 := qg_ BK256.out 5)); go_upto_region 8 with (first | ((with_reducible refine gate_dst (N := 4) rfl ?_); (try (refine gate_guard (by rfl) ?_; dsimp only)); refine q1_ ?hg (N := 4) ?hd (cs := #[.int .i64 a1_0, .int .i64 a1_1, .int .i64 a1_2, .int .i64 a1_3, .string a1_4, .slice A1_5 l1_5.length c1_5]) (t := 43) ?hr ?_; (case hd => rfl); (case hg => rfl); (case hr => first | (go_simp; done) | (go_simp; rfl)); intro gb256 hg w20 hbox hb; have n0_ := qi_.mk (Kd.R_below (by (with_reducible repeat (first | apply Kd.qo_ | apply Kd.qp_)); exact HO0.out) hb); have n1_ := qi_.mk (Kept.below (S := (fun k_ => P0_ k_)) (by repeat (first | (with_reducible first | exact HK.out | apply Kept.alloc | apply Kept.drewN | apply Kept.drew) | exact HK.out)) hb); have n2_ := qi_.mk (qr_ (by repeat (first | (with_reducible first | exact HB.out | apply qe_ | apply qa_ | apply qc_) | exact HB.out)) hb); have n3_ := qi_.mk (hbox); have n4_ := qi_.mk ((by rw [hg]; exact (by first | exact HK.out.1 | exact (show Kept w _ (fun k_ => P0_ k_) from by repeat (first | (with_reducible first | exact HK.out | apply Kept.alloc | apply Kept.drewN | apply Kept.drew) | exact HK.out)).1) : w.heap.size ≤ gb256)); have n5_ := qi_.mk ((by rw [hg]; exact (qq_ (by repeat (first | (with_reducible first | exact HB.out | apply qe_ | apply qa_ | apply qc_) | exact HB.out))) : w0.heap.size ≤ gb256)); clear HO0; clear HK; clear HB; have HO0 := n0_; have HK := n1_; have HB := n2_; have BK256 := n3_; have GW256 := n4_; have GE256 := n5_; clear n0_ n1_ n2_ n3_ n4_ n5_; clear hb hbox hg; obtain ⟨Ao22, co22, eo22⟩ := Kd.R_slice HO0.out; subst eo22) | ((with_reducible refine gate_builtin (b := .append) (xs := #[.const (.slice none 0 0), .tmp 9]) rfl ?_); (try (refine gate_guard (by rfl) ?_; dsimp only)); at_builtin; refine Kd.R_append_rows k34 (w0 := w0) w0.heap.size rfl (.const (.slice none 0 0)) (.tmp 9) 24 34 (.agg #[(.int .i64 0), (.int .i64 0), (.int .i64 0), (.bool false), (.bool false)]) 32 rfl Try.underlying24 info34 rfl (by decide) (by omega) (.slice none 0 0) ([] : List (S34)) l0 _ _ _ (fun k_ => (P0_ k_ ∨ w.heap.size ≤ k_) ∧ some k_ ≠ (.slice Ao22 l0.length co22 : Value).ownBlock) (fun _ => False) rfl rfl ?aO ?aR (fun _ _ h => h) (fun _ h => h.elim) ?aF ?aB ?aS ?aL ?_; (case aR => repeat (first | exact (Kd.R_reads' HO0.out).2.2)); (case aB => exact (by repeat (first | (with_reducible first | exact HB.out | apply qe_ | apply qa_ | apply qc_ | refine qf_ ?_ GE256.out) | exact HB.out))); (case aF => exact (fun k_ hk => ⟨(.inr (Nat.le_trans (by first | exact HK.out.1 | exact (show Kept w _ (fun k_ => P0_ k_) from by repeat (first | (with_reducible first | exact HK.out | apply Kept.alloc | apply Kept.drewN | apply Kept.drew | refine Kept.setCell ?_ (.inr GW256.out) _) | exact HK.out)).1) hk)), Kd.fresh' (Kd.R_lt (by (with_reducible repeat (first | apply Kd.qo_ | apply Kd.qp_)); exact HO0.out)) k_ hk⟩)); (case aO => exact ((Kd.R_nil _ _ _ _ (fun k_ => (P0_ k_ ∨ w.heap.size ≤ k_) ∧ some k_ ≠ (.slice Ao22 l0.length co22 : Value).ownBlock)))); (case aS => exact (qq_ (by repeat (first | (with_reducible first | exact HB.out | apply qe_ | apply qa_ | apply qc_ | refine qf_ ?_ GE256.out) | exact HB.out)))); (case aL => have := LMc4.out; omega); intro v258 w21 ho hb hg hat; rw [← Ny257.out] at ho; have n0_ := qi_.mk (Kd.R_after (Kd.R_apart_nil (by (with_reducible repeat (first | apply Kd.qo_ | apply Kd.qp_)); exact HO0.out)) hg hat); have n1_ := qi_.mk (blk_grown (g := gb256) (o := .cells #[.int .i64 a1_0, .int .i64 a1_1, .int .i64 a1_2, .int .i64 a1_3, .string a1_4, .slice A1_5 l1_5.length c1_5] 43 (0, 0)) (by (with_reducible repeat (first | refine qd_ ?_ _ | refine qh_ ?_)); exact BK256.out) hg (by simp [Value.ownBlock])); have n2_ := qi_.mk (hb); have n3_ := qi_.mk (Kept.of_grown (S := (fun k_ => P0_ k_)) hg (by repeat (first | (with_reducible first | exact HK.out | apply Kept.alloc | apply Kept.drewN | apply Kept.drew | refine Kept.setCell ?_ (.inr GW256.out) _) | exact HK.out)) (fun k_ e_ => by simp [Value.ownBlock] at e_)); have n4_ := qi_.mk (ho); clear HO0; clear BK256; clear HB; clear HK; have HO0 := n0_; have BK256 := n1_; have HB := n2_; have HK := n3_; have HO259 := n4_; clear n0_ n1_ n2_ n3_ n4_; clear ho hb hg hat; have hcz23_0 : w21.cell? ⟨gb256, 0, none⟩ = some (.int .i64 a1_0) := (qb_ BK256.out 0).trans rfl; have hcz23_1 : w21.cell? ⟨gb256, 1, none⟩ = some (.int .i64 a1_1) := (qb_ BK256.out 1).trans rfl; have hcz23_2 : w21.cell? ⟨gb256, 2, none⟩ = some (.int .i64 a1_2) := (qb_ BK256.out 2).trans rfl; have hcz23_3 : w21.cell? ⟨gb256, 3, none⟩ = some (.int .i64 a1_3) := (qb_ BK256.out 3).trans rfl; have hcz23_4 : w21.cell? ⟨gb256, 4, none⟩ = some (.string a1_4) := (qb_ BK256.out 4).trans rfl; have hcz23_5 : w21.cell? ⟨gb256, 5, none⟩ = some (.slice A1_5 l1_5.length c1_5) := (qb_ BK256.out 5).trans rfl; have hfz23_0 := qg_ BK256.out 0; have hfz23_1 := qg_ BK256.out 1; have hfz23_2 := qg_ BK256.out 2; have hfz23_3 := qg_ BK256.out 3; have hfz23_4 := qg_ BK256.out 4; have hfz23_5 := qg_ BK256.out 5)))
   (try simp only [Act.put, List.setIfInBounds_toArray, List.set_cons_zero, List.set_cons_succ])
   go_cut [45] (fun v45 wc => ∃ (kq : Nat) (x45_18 : Bool), v45 = .bool x45_18 ∧ qi_ (qu_.j1 kq l0 y257 x45_18 a1_0 a1_1 a1_2 a1_3 a1_4 l1_5 = some (r1, r2)) ∧ qi_ (kq ≤ k) ∧ qi_ (Kd.R k34 34 wc w0.heap.size (fun k_ => (P0_ k_ ∨ w.heap.size ≤ k_) ∧ some k_ ≠ (v258 : Value).ownBlock) (.slice Ao22 l0.length co22) l0) ∧ qi_ (Kd.R k34 34 wc w0.heap.size (fun k_ => (P0_ k_ ∨ w.heap.size ≤ k_) ∧ some k_ ≠ ((.slice Ao22 l0.length co22) : Value).ownBlock) v258 y257) ∧ qi_ (wc.heap[gb256]? = some (.cells #[.int .i64 a1_0, .int .i64 a1_1, .int .i64 a1_2, .int .i64 a1_3, .string a1_4, (.slice A1_5 l1_5.length c1_5)] 43 (0, 0))) ∧ qi_ (Kept w wc (fun k_ => P0_ k_)) ∧ qi_ (Below w0.heap.size w0 wc))
   case first =>
    have H := HC19.out
    clear HC19
    by_cases c24 : a1_2 < 0
    ·rw [if_pos c24] at H
     have c24b0 : decide (a1_2 < 0) = true := decide_eq_true c24
     clear c24
     (first | rw [c24b0] | (simp only [i64_w, i32_w]; rw [c24b0]) | skip)
     have H' := qi_.mk H
     clear H
     have hcz25_0 : w21.cell? ⟨gb256, 0, none⟩ = some (.int .i64 a1_0) := (qb_ BK256.out 0).trans rfl
     have hcz25_1 : w21.cell? ⟨gb256, 1, none⟩ = some (.int .i64 a1_1) := (qb_ BK256.out 1).trans rfl
     have hcz25_2 : w21.cell? ⟨gb256, 2, none⟩ = some (.int .i64 a1_2) := (qb_ BK256.out 2).trans rfl
     have hcz25_3 : w21.cell? ⟨gb256, 3, none⟩ = some (.int .i64 a1_3) := (qb_ BK256.out 3).trans rfl
     have hcz25_4 : w21.cell? ⟨gb256, 4, none⟩ = some (.string a1_4) := (qb_ BK256.out 4).trans rfl
     have hcz25_5 : w21.cell? ⟨gb256, 5, none⟩ = some (.slice A1_5 l1_5.length c1_5) := (qb_ BK256.out 5).trans rfl
     have hfz25_0 := qg_ BK256.out 0
     have hfz25_1 := qg_ BK256.out 1
     have hfz25_2 := qg_ BK256.out 2
     have hfz25_3 := qg_ BK256.out 3
     have hfz25_4 := qg_ BK256.out 4
     have hfz25_5 := qg_ BK256.out 5
     go_wp2
     repeat (go_quiet (fail); try go_wp2)
     go_meet
     case rel => exact ⟨_, (true), (by first | rfl | (simp; done) | (simp [*]; done)), H', ⟨by first | omega | exact Nat.le_refl _⟩, ⟨by (with_reducible repeat (first | apply Kd.qo_ | apply Kd.qp_)); exact HO0.out⟩, ⟨by (with_reducible repeat (first | apply Kd.qo_ | apply Kd.qp_)); exact HO259.out⟩, ⟨by (with_reducible repeat (first | refine qd_ ?_ _ | refine qh_ ?_)); exact BK256.out⟩, ⟨by repeat (first | (with_reducible first | exact HK.out | apply Kept.alloc | apply Kept.drewN | apply Kept.drew | refine Kept.setCell ?_ (.inr GW256.out) _) | exact HK.out)⟩, ⟨by repeat (first | (with_reducible first | exact HB.out | apply qe_ | apply qa_ | apply qc_ | refine qf_ ?_ GE256.out) | exact HB.out)⟩⟩
    ·rw [if_neg c24] at H
     have c24b0 : decide (a1_2 < 0) = false := decide_eq_false c24
     clear c24
     (first | rw [c24b0] | (simp only [i64_w, i32_w]; rw [c24b0]) | skip)
     have H' := qi_.mk H
     clear H
     have hcz26_0 : w21.cell? ⟨gb256, 0, none⟩ = some (.int .i64 a1_0) := (qb_ BK256.out 0).trans rfl
     have hcz26_1 : w21.cell? ⟨gb256, 1, none⟩ = some (.int .i64 a1_1) := (qb_ BK256.out 1).trans rfl
     have hcz26_2 : w21.cell? ⟨gb256, 2, none⟩ = some (.int .i64 a1_2) := (qb_ BK256.out 2).trans rfl
     have hcz26_3 : w21.cell? ⟨gb256, 3, none⟩ = some (.int .i64 a1_3) := (qb_ BK256.out 3).trans rfl
     have hcz26_4 : w21.cell? ⟨gb256, 4, none⟩ = some (.string a1_4) := (qb_ BK256.out 4).trans rfl
     have hcz26_5 : w21.cell? ⟨gb256, 5, none⟩ = some (.slice A1_5 l1_5.length c1_5) := (qb_ BK256.out 5).trans rfl
     have hfz26_0 := qg_ BK256.out 0
     have hfz26_1 := qg_ BK256.out 1
     have hfz26_2 := qg_ BK256.out 2
     have hfz26_3 := qg_ BK256.out 3
     have hfz26_4 := qg_ BK256.out 4
     have hfz26_5 := qg_ BK256.out 5
     go_wp2
     repeat (go_quiet (fail); try go_wp2)
     go_meet
     case rel => exact ⟨_, (decide (a1_2 ≥ (l0.length : Int))), (by first | rfl | (simp; done) | (simp [*]; done)), H', ⟨by first | omega | exact Nat.le_refl _⟩, ⟨by (with_reducible repeat (first | apply Kd.qo_ | apply Kd.qp_)); exact HO0.out⟩, ⟨by (with_reducible repeat (first | apply Kd.qo_ | apply Kd.qp_)); exact HO259.out⟩, ⟨by (with_reducible repeat (first | refine qd_ ?_ _ | refine qh_ ?_)); exact BK256.out⟩, ⟨by repeat (first | (with_reducible first | exact HK.out | apply Kept.alloc | apply Kept.drewN | apply Kept.drew | refine Kept.setCell ?_ (.inr GW256.out) _) | exact HK.out)⟩, ⟨by repeat (first | (with_reducible first | exact HB.out | apply qe_ | apply qa_ | apply qc_ | refine qf_ ?_ GE256.out) | exact HB.out)⟩⟩
   case rest =>
    clear HC19
    try clear c1
    try clear c2
    try clear p2
    try clear c4
    try clear c5
    try clear c5b0
    try clear c5b1
    try clear c11
    try clear c11b0
    try clear c14
    try clear c15
    try clear c15b0
    try clear c15b1
    try clear c16
    try clear c24
    try clear c24b0
    try clear hcz10_0
    try clear hcz10_1
    try clear hcz10_2
    try clear hcz10_3
    try clear hcz10_4
    try clear hcz10_5
    try clear hcz12_0
    try clear hcz12_1
    try clear hcz12_2
    try clear hcz12_3
    try clear hcz12_4
    try clear hcz12_5
    try clear hcz13_0
    try clear hcz13_1
    try clear hcz13_2
    try clear hcz13_3
    try clear hcz13_4
    try clear hcz13_5
    try clear hcz17_0
    try clear hcz17_1
    try clear hcz17_2
    try clear hcz17_3
    try clear hcz17_4
    try clear hcz17_5
    try clear hcz23_0
    try clear hcz23_1
    try clear hcz23_2
    try clear hcz23_3
    try clear hcz23_4
    try clear hcz23_5
    try clear hcz25_0
    try clear hcz25_1
    try clear hcz25_2
    try clear hcz25_3
    try clear hcz25_4
    try clear hcz25_5
    try clear hcz26_0
    try clear hcz26_1
    try clear hcz26_2
    try clear hcz26_3
    try clear hcz26_4
    try clear hcz26_5
    try clear hfz10_0
    try clear hfz10_1
    try clear hfz10_2
    try clear hfz10_3
    try clear hfz10_4
    try clear hfz10_5
    try clear hfz12_0
    try clear hfz12_1
    try clear hfz12_2
    try clear hfz12_3
    try clear hfz12_4
    try clear hfz12_5
    try clear hfz13_0
    try clear hfz13_1
    try clear hfz13_2
    try clear hfz13_3
    try clear hfz13_4
    try clear hfz13_5
    try clear hfz17_0
    try clear hfz17_1
    try clear hfz17_2
    try clear hfz17_3
    try clear hfz17_4
    try clear hfz17_5
    try clear hfz23_0
    try clear hfz23_1
    try clear hfz23_2
    try clear hfz23_3
    try clear hfz23_4
    try clear hfz23_5
    try clear hfz25_0
    try clear hfz25_1
    try clear hfz25_2
    try clear hfz25_3
    try clear hfz25_4
    try clear hfz25_5
    try clear hfz26_0
    try clear hfz26_1
    try clear hfz26_2
    try clear hfz26_3
    try clear hfz26_4
    try clear hfz26_5
    try clear p2
    obtain ⟨kq, x45_18, rfl, HA, HJ18, HO_0, HO_8, BK256, HK, HB⟩ := hcut
    cases kq with
    | zero => exact absurd HA.out (by simp [qu_.j1])
    | succ kj18 =>
     have H := HA.out
     clear HA
     simp only [qu_.j1] at H
     by_cases c27 : x45_18 = true
     ·subst c27
      have H1 : (some (l0, 6)) = some (r1, r2) := by rw [if_pos rfl] at H; exact H
      clear H
      have H := H1
      clear H1
      simp only [Option.some.injEq, Prod.mk.injEq] at H
      obtain ⟨rfl, rfl⟩ := H
      go_wp2
      repeat (go_quiet (fail); try go_wp2)
      go_ret2
      exact ⟨_, by first | rfl | (simp [*] <;> rfl), by (with_reducible repeat (first | apply Kd.qo_ | apply Kd.qp_)); exact Kd.R_mono HO_0.out (fun _ hk => hk.1), by repeat (first | (with_reducible first | exact HB.out | apply qe_ | apply qa_ | apply qc_ | refine qf_ ?_ GE256.out) | exact HB.out), by repeat (first | (with_reducible first | exact HK.out | apply Kept.alloc | apply Kept.drewN | apply Kept.drew | refine Kept.setCell ?_ (.inr GW256.out) _) | exact HK.out)⟩
     ·replace c27 := Bool.eq_false_iff.mpr c27
      subst c27
      have H1 : (if a1_0 = 2 then (if 0 ≤ a1_2 then (if a1_2 < (y257.length : Int) then ((some (y257.set (a1_2 : Int).toNat (⟨(rd_T34 y257 a1_2).f0, (rd_T34 y257 a1_2).f1, wrap64 (((rd_T34 y257 a1_2).f2) + 1), (rd_T34 y257 a1_2).f3, (rd_T34 y257 a1_2).f4⟩ : S34) : List (S34))).bind fun y264 => (some ((y264.set (a1_2 : Int).toNat (⟨(rd_T34 y264 a1_2).f0, (rd_T34 y264 a1_2).f1, (rd_T34 y264 a1_2).f2, (rd_T34 y264 a1_2).f3, false⟩ : S34)), 0))) else (none)) else (none)) else (if 0 ≤ a1_2 then (if a1_2 < (l0.length : Int) then (if (rd_T34 l0 a1_2).f4 = true then (some (l0, 11)) else (if ((rd_T34 l0 a1_2).f0) = a1_1 then (if a1_2 < (y257.length : Int) then (some ((y257.set (a1_2 : Int).toNat (⟨(rd_T34 y257 a1_2).f0, (rd_T34 y257 a1_2).f1, (rd_T34 y257 a1_2).f2, (rd_T34 y257 a1_2).f3, true⟩ : S34)), 0)) else (none)) else (some (l0, 13)))) else (none)) else (none))) = some (r1, r2) := by rw [if_neg (show ¬ (false = true) by decide)] at H; exact H
      clear H
      have H := H1
      clear H1
      by_cases c28 : a1_0 = 2
      ·rw [if_pos c28] at H
       have c28b0 : (a1_0 == 2) = true := beq_iff_eq.mpr c28
       have c28b1 : (a1_0 != 2) = false := bne_eq_false_iff_eq.mpr c28
       clear c28
       by_cases c29 : 0 ≤ a1_2
       ·rw [if_pos c29] at H
        have c29b0 : decide (0 ≤ a1_2) = true := decide_eq_true c29
        clear c29
        by_cases c30 : a1_2 < (y257.length : Int)
        ·rw [if_pos c30] at H
         have c30b0 : decide (a1_2 < (y257.length : Int)) = true := decide_eq_true c30
         clear c30
         obtain ⟨y264, hy264⟩ : ∃ y_ : List (S34), y_ = (y257.set (a1_2 : Int).toNat (⟨(rd_T34 y257 a1_2).f0, (rd_T34 y257 a1_2).f1, wrap64 (((rd_T34 y257 a1_2).f2) + 1), (rd_T34 y257 a1_2).f3, (rd_T34 y257 a1_2).f4⟩ : S34)) := ⟨_, rfl⟩
         replace H : (some ((y264.set (a1_2 : Int).toNat (⟨(rd_T34 y264 a1_2).f0, (rd_T34 y264 a1_2).f1, (rd_T34 y264 a1_2).f2, (rd_T34 y264 a1_2).f3, false⟩ : S34)), 0)) = some (r1, r2) := by first | (rw [hy264]; with_reducible exact H) | (have H2_ := (Option.bind_some _ _).symm.trans H; rw [hy264]; with_reducible exact H2_) | (have H2_ := (Option.bind_some _ _).symm.trans H; with_reducible exact H2_) | with_reducible exact H | (rw [hy264]; exact H) | exact H
         have Ny264 := qi_.mk hy264
         clear hy264
         obtain ⟨y265, hy265⟩ : ∃ y_ : List (S34), y_ = (y264.set (a1_2 : Int).toNat (⟨(rd_T34 y264 a1_2).f0, (rd_T34 y264 a1_2).f1, (rd_T34 y264 a1_2).f2, (rd_T34 y264 a1_2).f3, false⟩ : S34)) := ⟨_, rfl⟩
         replace H : (some (y265, 0)) = some (r1, r2) := by first | (rw [hy265]; with_reducible exact H) | (have H2_ := (Option.bind_some _ _).symm.trans H; rw [hy265]; with_reducible exact H2_) | (have H2_ := (Option.bind_some _ _).symm.trans H; with_reducible exact H2_) | with_reducible exact H | (rw [hy265]; exact H) | exact H
         have Ny265 := qi_.mk hy265
         clear hy265
         simp only [Option.some.injEq, Prod.mk.injEq] at H
         obtain ⟨rfl, rfl⟩ := H
         have hcz33_0 : wc.cell? ⟨gb256, 0, none⟩ = some (.int .i64 a1_0) := (qb_ BK256.out 0).trans rfl
         have hcz33_1 : wc.cell? ⟨gb256, 1, none⟩ = some (.int .i64 a1_1) := (qb_ BK256.out 1).trans rfl
         have hcz33_2 : wc.cell? ⟨gb256, 2, none⟩ = some (.int .i64 a1_2) := (qb_ BK256.out 2).trans rfl
         have hcz33_3 : wc.cell? ⟨gb256, 3, none⟩ = some (.int .i64 a1_3) := (qb_ BK256.out 3).trans rfl
         have hcz33_4 : wc.cell? ⟨gb256, 4, none⟩ = some (.string a1_4) := (qb_ BK256.out 4).trans rfl
         have hcz33_5 : wc.cell? ⟨gb256, 5, none⟩ = some (.slice A1_5 l1_5.length c1_5) := (qb_ BK256.out 5).trans rfl
         have hfz33_0 := qg_ BK256.out 0
         have hfz33_1 := qg_ BK256.out 1
         have hfz33_2 := qg_ BK256.out 2
         have hfz33_3 := qg_ BK256.out 3
         have hfz33_4 := qg_ BK256.out 4
         have hfz33_5 := qg_ BK256.out 5
         obtain ⟨Ao34, co34, eo34⟩ := Kd.R_slice HO_8.out
         subst eo34
         have p263 : 0 ≤ (a1_2 : Int) := of_decide_eq_true (by assumption)
         have q263 : a1_2 < (y257.length : Int) := of_decide_eq_true (by assumption)
         obtain ⟨ad263, e263, hx263_0, hx263_1, hx263_2, hx263_3, hx263_4⟩ := at_T34 (Kd.R_reads' HO_8.out).2.2 a1_2 p263 q263
         cases e263
         replace p263 := eq_true p263
         replace q263 := eq_true q263
         have p31 : 0 ≤ (a1_2 : Int) := of_decide_eq_true (by assumption)
         have q31 : (a1_2 : Int) < ((y257.length : Int) : Int) := of_decide_eq_true (by assumption)
         obtain ⟨go31, co31, eo31, gb31, gl31, cl31, HG31⟩ := Kd.R_form HO_8.out (by omega)
         (first | cases eo31 | (injection eo31 with ea_ en_ ec_; (first | subst ea_ | (injection ea_ with ea_; subst ea_)); subst ec_; clear en_))
         have GB31 := qi_.mk gb31
         have GG31 := qi_.mk HG31
         clear gb31 gl31 HG31
         have HMgo31 := qi_.mk (show (P0_ go31 ∨ w.heap.size ≤ go31) from (HO_8.out.1 _ rfl).1)
         (first | simp only [add_plain] at hx263_0 | skip)
         (first | simp only [add_plain] at hx263_1 | skip)
         (first | simp only [add_plain] at hx263_2 | skip)
         (first | simp only [add_plain] at hx263_3 | skip)
         (first | simp only [add_plain] at hx263_4 | skip)
         obtain ⟨ce31, hcl31, hM31, hcc31, hfr31⟩ := Kd.R_elem HO_8.out z34 (a1_2 : Int) p31 q31
         obtain rfl := k34_openM hM31
         have hx31_0 : wc.cell? ⟨go31, (a1_2 : Int).toNat * 5, none⟩ = some (.int .i64 ((rd_T34 y257 a1_2).f0)) := hcc31 0 _ rfl
         have hx31_1 : wc.cell? ⟨go31, (a1_2 : Int).toNat * 5 + 1, none⟩ = some (.int .i64 ((rd_T34 y257 a1_2).f1)) := hcc31 1 _ rfl
         have hx31_2 : wc.cell? ⟨go31, (a1_2 : Int).toNat * 5 + 2, none⟩ = some (.int .i64 ((rd_T34 y257 a1_2).f2)) := hcc31 2 _ rfl
         have hx31_3 : wc.cell? ⟨go31, (a1_2 : Int).toNat * 5 + 3, none⟩ = some (.bool ((rd_T34 y257 a1_2).f3)) := hcc31 3 _ rfl
         have hx31_4 : wc.cell? ⟨go31, (a1_2 : Int).toNat * 5 + 4, none⟩ = some (.bool ((rd_T34 y257 a1_2).f4)) := hcc31 4 _ rfl
         have hf31_0 : wc.frozen? ⟨go31, (a1_2 : Int).toNat * 5, none⟩ = false := hfr31 0
         have hf31_1 : wc.frozen? ⟨go31, (a1_2 : Int).toNat * 5 + 1, none⟩ = false := hfr31 1
         have hf31_2 : wc.frozen? ⟨go31, (a1_2 : Int).toNat * 5 + 2, none⟩ = false := hfr31 2
         have hf31_3 : wc.frozen? ⟨go31, (a1_2 : Int).toNat * 5 + 3, none⟩ = false := hfr31 3
         have hf31_4 : wc.frozen? ⟨go31, (a1_2 : Int).toNat * 5 + 4, none⟩ = false := hfr31 4
         clear hcl31 hcc31 hfr31 hM31
         replace p31 := eq_true p31
         replace q31 := eq_true q31
         have HX35 := qi_.mk (show Kd.R k34 34 wc w0.heap.size (fun k_ => (P0_ k_ ∨ w.heap.size ≤ k_) ∧ some k_ ≠ (.slice Ao22 l0.length co22 : Value).ownBlock) (.slice (some ⟨go31, 0, none⟩) y257.length co34) y257 from (by (with_reducible repeat (first | apply Kd.qo_ | apply Kd.qp_)); exact HO_8.out))
         obtain ⟨ce35, hcl35, hM35, hcc35, hfr35⟩ := Kd.R_elem HX35.out z34 (a1_2 : Int) (of_decide_eq_true (by assumption)) (by have h_ : (a1_2 : Int) < ((y257.length : Int) : Int) := of_decide_eq_true (by assumption); first | exact h_ | (have e_ := (Kd.R_reads' HO_8.out).1; omega) | simpa using h_)
         obtain rfl := k34_openM hM35
         have HP35 := Kd.R_seg HX35.out (a1_2 : Int) (of_decide_eq_true (by assumption)) (by have h_ : (a1_2 : Int) < ((y257.length : Int) : Int) := of_decide_eq_true (by assumption); first | exact h_ | (have e_ := (Kd.R_reads' HO_8.out).1; omega) | simpa using h_) (seg := [.int .i64 (wrap64 (((rd_T34 y257 a1_2).f2) + 1))]) (j := 2) hcl35 hcc35 (show 3 ≤ 5 from by decide) (x' := (⟨(rd_T34 y257 a1_2).f0, (rd_T34 y257 a1_2).f1, wrap64 (((rd_T34 y257 a1_2).f2) + 1), (rd_T34 y257 a1_2).f3, (rd_T34 y257 a1_2).f4⟩ : S34)) (k34_mkM _ _ _ (⟨(rd_T34 y257 a1_2).f0, (rd_T34 y257 a1_2).f1, wrap64 (((rd_T34 y257 a1_2).f2) + 1), (rd_T34 y257 a1_2).f3, (rd_T34 y257 a1_2).f4⟩ : S34) ) (fun _ hk => hk)
         have hx35_2 := hcc35 2 _ rfl
         (try simp only [show (k34).sz = 5 from rfl, Nat.mul_one, Nat.add_zero] at hx35_2)
         have hf35_2 := hfr35 2
         (try simp only [show (k34).sz = 5 from rfl, Nat.mul_one, Nat.add_zero] at hf35_2)
         clear hcl35 hcc35 hfr35 hM35
         go_wp2_with (first | ((with_reducible refine gate_store (t := 3) (p := 58) rfl ?_); (try (rw [drewN_self wc]; generalize hq_ : World.drewN wc _ = wc; have n0_ := qi_.mk (Kd.R_at hq_ HO_0.out); have n1_ := qi_.mk (Kd.R_at hq_ HO_8.out); have n2_ := qi_.mk (blk_at hq_ BK256.out); have n3_ := qi_.mk (kept_at hq_ HK.out); have n4_ := qi_.mk (below_at hq_ HB.out); clear hq_ HO_0 HO_8 BK256 HK HB; have HO_0 := n0_; have HO_8 := n1_; have BK256 := n2_; have HK := n3_; have HB := n4_; clear n0_ n1_ n2_ n3_ n4_; (try (have HX35 := qi_.mk (show Kd.R k34 34 wc w0.heap.size (fun k_ => (P0_ k_ ∨ w.heap.size ≤ k_) ∧ some k_ ≠ (.slice Ao22 l0.length co22 : Value).ownBlock) (.slice (some ⟨go31, 0, none⟩) y257.length co34) y257 from (by (with_reducible repeat (first | apply Kd.qo_ | apply Kd.qp_)); exact HO_8.out)))); (try (obtain ⟨ce35, hcl35, hM35, hcc35, hfr35⟩ := Kd.R_elem HX35.out z34 (a1_2 : Int) (of_decide_eq_true (by assumption)) (by have h_ : (a1_2 : Int) < ((y257.length : Int) : Int) := of_decide_eq_true (by assumption); first | exact h_ | (have e_ := (Kd.R_reads' HO_8.out).1; omega) | simpa using h_))); (try (obtain rfl := k34_openM hM35)); (try (have HP35 := Kd.R_seg HX35.out (a1_2 : Int) (of_decide_eq_true (by assumption)) (by have h_ : (a1_2 : Int) < ((y257.length : Int) : Int) := of_decide_eq_true (by assumption); first | exact h_ | (have e_ := (Kd.R_reads' HO_8.out).1; omega) | simpa using h_) (seg := [.int .i64 (wrap64 (((rd_T34 y257 a1_2).f2) + 1))]) (j := 2) hcl35 hcc35 (show 3 ≤ 5 from by decide) (x' := (⟨(rd_T34 y257 a1_2).f0, (rd_T34 y257 a1_2).f1, wrap64 (((rd_T34 y257 a1_2).f2) + 1), (rd_T34 y257 a1_2).f3, (rd_T34 y257 a1_2).f4⟩ : S34)) (k34_mkM _ _ _ (⟨(rd_T34 y257 a1_2).f0, (rd_T34 y257 a1_2).f1, wrap64 (((rd_T34 y257 a1_2).f2) + 1), (rd_T34 y257 a1_2).f3, (rd_T34 y257 a1_2).f4⟩ : S34) ) (fun _ hk => hk))); (try (have hx35_2 := hcc35 2 _ rfl)); (try (try simp only [show (k34).sz = 5 from rfl, Nat.mul_one, Nat.add_zero] at hx35_2)); (try (have hf35_2 := hfr35 2)); (try (try simp only [show (k34).sz = 5 from rfl, Nat.mul_one, Nat.add_zero] at hf35_2)); (try (clear hcl35 hcc35 hfr35 hM35)))); refine store_event (t := 3) (p := 58) (v := ?vo_w36) (w1 := (wc.setCell ⟨go31, (a1_2 : Int).toNat * 5 + 2, none⟩ (.int .i64 (wrap64 (((rd_T34 y257 a1_2).f2) + 1))))) ?hg ?ho ?hn ?hr ?_; (case ho => rfl); (case hg => rfl); (case hn => rfl); (case hr => first | (go_simp; done) | (go_simp; rfl)); intro w36 hw; have hg : wc.grownBy w36 (some go31) := (by rw [hw]; exact HP35.2); have hp_ : Kd.R k34 34 w36 w0.heap.size (fun k_ => (P0_ k_ ∨ w.heap.size ≤ k_) ∧ some k_ ≠ (.slice Ao22 l0.length co22 : Value).ownBlock) (.slice (some ⟨go31, 0, none⟩) y257.length co34) y264 := (by rw [hw, Ny264.out]; exact HP35.1); clear HP35; have n0_ := qi_.mk (Kd.R_after (v := (.slice (some ⟨go31, 0, none⟩) y257.length co34)) (v1 := (.slice (some ⟨go31, 0, none⟩) y257.length co34)) (ok := (fun k_ => (P0_ k_ ∨ w.heap.size ≤ k_))) (by (with_reducible repeat (first | apply Kd.qo_ | apply Kd.qp_)); exact HO_0.out) hg (.inl rfl)); have n1_ := qi_.mk (hp_); have n2_ := qi_.mk (blk_grown (g := gb256) (o := .cells #[.int .i64 a1_0, .int .i64 a1_1, .int .i64 a1_2, .int .i64 a1_3, .string a1_4, .slice A1_5 l1_5.length c1_5] 43 (0, 0)) (by (with_reducible repeat (first | refine qd_ ?_ _ | refine qh_ ?_)); exact BK256.out) hg (Kd.R_ne HO_8.out BK256.out (by decide))); have n3_ := qi_.mk ((by rw [hw]; exact qf_ (HB.out) GB31.out : Below w0.heap.size w0 w36)); have n4_ := qi_.mk (Kept.of_grown (S := (fun k_ => P0_ k_)) hg (by repeat (first | (with_reducible first | exact HK.out | apply Kept.alloc | apply Kept.drewN | apply Kept.drew | refine Kept.setCell ?_ (.inr GW256.out) _) | exact HK.out)) (fun k_ e_ => (HO_8.out.1 k_ e_).1)); clear HO_0; clear HO_8; clear BK256; clear HB; clear HK; have HO_0 := n0_; have HO_8 := n1_; have BK256 := n2_; have HB := n3_; have HK := n4_; clear n0_ n1_ n2_ n3_ n4_; clear hg hw hp_; have hcz37_0 : w36.cell? ⟨gb256, 0, none⟩ = some (.int .i64 a1_0) := (qb_ BK256.out 0).trans rfl; have hcz37_1 : w36.cell? ⟨gb256, 1, none⟩ = some (.int .i64 a1_1) := (qb_ BK256.out 1).trans rfl; have hcz37_2 : w36.cell? ⟨gb256, 2, none⟩ = some (.int .i64 a1_2) := (qb_ BK256.out 2).trans rfl; have hcz37_3 : w36.cell? ⟨gb256, 3, none⟩ = some (.int .i64 a1_3) := (qb_ BK256.out 3).trans rfl; have hcz37_4 : w36.cell? ⟨gb256, 4, none⟩ = some (.string a1_4) := (qb_ BK256.out 4).trans rfl; have hcz37_5 : w36.cell? ⟨gb256, 5, none⟩ = some (.slice A1_5 l1_5.length c1_5) := (qb_ BK256.out 5).trans rfl; have hfz37_0 := qg_ BK256.out 0; have hfz37_1 := qg_ BK256.out 1; have hfz37_2 := qg_ BK256.out 2; have hfz37_3 := qg_ BK256.out 3; have hfz37_4 := qg_ BK256.out 4; have hfz37_5 := qg_ BK256.out 5; have p32 : 0 ≤ (a1_2 : Int) := of_decide_eq_true (by assumption); have q32 : (a1_2 : Int) < ((y257.length : Int) : Int) := of_decide_eq_true (by assumption); obtain ⟨ce32, hcl32, hM32, hcc32, hfr32⟩ := Kd.R_elem HO_8.out z34 (a1_2 : Int) p32 q32; obtain rfl := k34_openM hM32; have hx32_0 : w36.cell? ⟨go31, (a1_2 : Int).toNat * 5, none⟩ = some (.int .i64 ((rd_T34 y264 a1_2).f0)) := hcc32 0 _ rfl; have hx32_1 : w36.cell? ⟨go31, (a1_2 : Int).toNat * 5 + 1, none⟩ = some (.int .i64 ((rd_T34 y264 a1_2).f1)) := hcc32 1 _ rfl; have hx32_2 : w36.cell? ⟨go31, (a1_2 : Int).toNat * 5 + 2, none⟩ = some (.int .i64 ((rd_T34 y264 a1_2).f2)) := hcc32 2 _ rfl; have hx32_3 : w36.cell? ⟨go31, (a1_2 : Int).toNat * 5 + 3, none⟩ = some (.bool ((rd_T34 y264 a1_2).f3)) := hcc32 3 _ rfl; have hx32_4 : w36.cell? ⟨go31, (a1_2 : Int).toNat * 5 + 4, none⟩ = some (.bool ((rd_T34 y264 a1_2).f4)) := hcc32 4 _ rfl; have hf32_0 : w36.frozen? ⟨go31, (a1_2 : Int).toNat * 5, none⟩ = false := hfr32 0; have hf32_1 : w36.frozen? ⟨go31, (a1_2 : Int).toNat * 5 + 1, none⟩ = false := hfr32 1; have hf32_2 : w36.frozen? ⟨go31, (a1_2 : Int).toNat * 5 + 2, none⟩ = false := hfr32 2; have hf32_3 : w36.frozen? ⟨go31, (a1_2 : Int).toNat * 5 + 3, none⟩ = false := hfr32 3; have hf32_4 : w36.frozen? ⟨go31, (a1_2 : Int).toNat * 5 + 4, none⟩ = false := hfr32 4; clear hcl32 hcc32 hfr32 hM32; replace p32 := eq_true p32; replace q32 := eq_true q32; have HX38 := qi_.mk (show Kd.R k34 34 w36 w0.heap.size (fun k_ => (P0_ k_ ∨ w.heap.size ≤ k_) ∧ some k_ ≠ (.slice Ao22 l0.length co22 : Value).ownBlock) (.slice (some ⟨go31, 0, none⟩) y257.length co34) y264 from (by (with_reducible repeat (first | apply Kd.qo_ | apply Kd.qp_)); exact HO_8.out)); obtain ⟨ce38, hcl38, hM38, hcc38, hfr38⟩ := Kd.R_elem HX38.out z34 (a1_2 : Int) (of_decide_eq_true (by assumption)) (by have h_ : (a1_2 : Int) < ((y257.length : Int) : Int) := of_decide_eq_true (by assumption); first | exact h_ | (have e_ := (Kd.R_reads' HO_8.out).1; omega) | simpa using h_); obtain rfl := k34_openM hM38; have HP38 := Kd.R_seg HX38.out (a1_2 : Int) (of_decide_eq_true (by assumption)) (by have h_ : (a1_2 : Int) < ((y257.length : Int) : Int) := of_decide_eq_true (by assumption); first | exact h_ | (have e_ := (Kd.R_reads' HO_8.out).1; omega) | simpa using h_) (seg := [.bool false]) (j := 4) hcl38 hcc38 (show 5 ≤ 5 from by decide) (x' := (⟨(rd_T34 y264 a1_2).f0, (rd_T34 y264 a1_2).f1, (rd_T34 y264 a1_2).f2, (rd_T34 y264 a1_2).f3, false⟩ : S34)) (k34_mkM _ _ _ (⟨(rd_T34 y264 a1_2).f0, (rd_T34 y264 a1_2).f1, (rd_T34 y264 a1_2).f2, (rd_T34 y264 a1_2).f3, false⟩ : S34) ) (fun _ hk => hk); have hx38_4 := hcc38 4 _ rfl; (try simp only [show (k34).sz = 5 from rfl, Nat.mul_one, Nat.add_zero] at hx38_4); have hf38_4 := hfr38 4; (try simp only [show (k34).sz = 5 from rfl, Nat.mul_one, Nat.add_zero] at hf38_4); clear hcl38 hcc38 hfr38 hM38) | ((with_reducible refine gate_store (t := 4) (p := 63) rfl ?_); (try (rw [drewN_self w36]; generalize hq_ : World.drewN w36 _ = w36; have n0_ := qi_.mk (Kd.R_at hq_ HO_0.out); have n1_ := qi_.mk (Kd.R_at hq_ HO_8.out); have n2_ := qi_.mk (blk_at hq_ BK256.out); have n3_ := qi_.mk (kept_at hq_ HK.out); have n4_ := qi_.mk (below_at hq_ HB.out); clear hq_ HO_0 HO_8 BK256 HK HB; have HO_0 := n0_; have HO_8 := n1_; have BK256 := n2_; have HK := n3_; have HB := n4_; clear n0_ n1_ n2_ n3_ n4_; (try (have HX38 := qi_.mk (show Kd.R k34 34 w36 w0.heap.size (fun k_ => (P0_ k_ ∨ w.heap.size ≤ k_) ∧ some k_ ≠ (.slice Ao22 l0.length co22 : Value).ownBlock) (.slice (some ⟨go31, 0, none⟩) y257.length co34) y264 from (by (with_reducible repeat (first | apply Kd.qo_ | apply Kd.qp_)); exact HO_8.out)))); (try (obtain ⟨ce38, hcl38, hM38, hcc38, hfr38⟩ := Kd.R_elem HX38.out z34 (a1_2 : Int) (of_decide_eq_true (by assumption)) (by have h_ : (a1_2 : Int) < ((y257.length : Int) : Int) := of_decide_eq_true (by assumption); first | exact h_ | (have e_ := (Kd.R_reads' HO_8.out).1; omega) | simpa using h_))); (try (obtain rfl := k34_openM hM38)); (try (have HP38 := Kd.R_seg HX38.out (a1_2 : Int) (of_decide_eq_true (by assumption)) (by have h_ : (a1_2 : Int) < ((y257.length : Int) : Int) := of_decide_eq_true (by assumption); first | exact h_ | (have e_ := (Kd.R_reads' HO_8.out).1; omega) | simpa using h_) (seg := [.bool false]) (j := 4) hcl38 hcc38 (show 5 ≤ 5 from by decide) (x' := (⟨(rd_T34 y264 a1_2).f0, (rd_T34 y264 a1_2).f1, (rd_T34 y264 a1_2).f2, (rd_T34 y264 a1_2).f3, false⟩ : S34)) (k34_mkM _ _ _ (⟨(rd_T34 y264 a1_2).f0, (rd_T34 y264 a1_2).f1, (rd_T34 y264 a1_2).f2, (rd_T34 y264 a1_2).f3, false⟩ : S34) ) (fun _ hk => hk))); (try (have hx38_4 := hcc38 4 _ rfl)); (try (try simp only [show (k34).sz = 5 from rfl, Nat.mul_one, Nat.add_zero] at hx38_4)); (try (have hf38_4 := hfr38 4)); (try (try simp only [show (k34).sz = 5 from rfl, Nat.mul_one, Nat.add_zero] at hf38_4)); (try (clear hcl38 hcc38 hfr38 hM38)))); refine store_event (t := 4) (p := 63) (v := ?vo_w39) (w1 := (w36.setCell ⟨go31, (a1_2 : Int).toNat * 5 + 4, none⟩ (.bool false))) ?hg ?ho ?hn ?hr ?_; (case ho => rfl); (case hg => rfl); (case hn => rfl); (case hr => first | (go_simp; done) | (go_simp; rfl)); intro w39 hw; have hg : w36.grownBy w39 (some go31) := (by rw [hw]; exact HP38.2); have hp_ : Kd.R k34 34 w39 w0.heap.size (fun k_ => (P0_ k_ ∨ w.heap.size ≤ k_) ∧ some k_ ≠ (.slice Ao22 l0.length co22 : Value).ownBlock) (.slice (some ⟨go31, 0, none⟩) y257.length co34) y265 := (by rw [hw, Ny265.out]; exact HP38.1); clear HP38; have n0_ := qi_.mk (Kd.R_after (v := (.slice (some ⟨go31, 0, none⟩) y257.length co34)) (v1 := (.slice (some ⟨go31, 0, none⟩) y257.length co34)) (ok := (fun k_ => (P0_ k_ ∨ w.heap.size ≤ k_))) (by (with_reducible repeat (first | apply Kd.qo_ | apply Kd.qp_)); exact HO_0.out) hg (.inl rfl)); have n1_ := qi_.mk (hp_); have n2_ := qi_.mk (blk_grown (g := gb256) (o := .cells #[.int .i64 a1_0, .int .i64 a1_1, .int .i64 a1_2, .int .i64 a1_3, .string a1_4, .slice A1_5 l1_5.length c1_5] 43 (0, 0)) (by (with_reducible repeat (first | refine qd_ ?_ _ | refine qh_ ?_)); exact BK256.out) hg (Kd.R_ne HO_8.out BK256.out (by decide))); have n3_ := qi_.mk ((by rw [hw]; exact qf_ (HB.out) GB31.out : Below w0.heap.size w0 w39)); have n4_ := qi_.mk (Kept.of_grown (S := (fun k_ => P0_ k_)) hg (by repeat (first | (with_reducible first | exact HK.out | apply Kept.alloc | apply Kept.drewN | apply Kept.drew | refine Kept.setCell ?_ (.inr GW256.out) _) | exact HK.out)) (fun k_ e_ => (HO_8.out.1 k_ e_).1)); clear HO_0; clear HO_8; clear BK256; clear HB; clear HK; have HO_0 := n0_; have HO_8 := n1_; have BK256 := n2_; have HB := n3_; have HK := n4_; clear n0_ n1_ n2_ n3_ n4_; clear hg hw hp_))
         repeat (go_quiet (first | ((with_reducible refine gate_store (t := 3) (p := 58) rfl ?_); (try (rw [drewN_self wc]; generalize hq_ : World.drewN wc _ = wc; have n0_ := qi_.mk (Kd.R_at hq_ HO_0.out); have n1_ := qi_.mk (Kd.R_at hq_ HO_8.out); have n2_ := qi_.mk (blk_at hq_ BK256.out); have n3_ := qi_.mk (kept_at hq_ HK.out); have n4_ := qi_.mk (below_at hq_ HB.out); clear hq_ HO_0 HO_8 BK256 HK HB; have HO_0 := n0_; have HO_8 := n1_; have BK256 := n2_; have HK := n3_; have HB := n4_; clear n0_ n1_ n2_ n3_ n4_; (try (have HX35 := qi_.mk (show Kd.R k34 34 wc w0.heap.size (fun k_ => (P0_ k_ ∨ w.heap.size ≤ k_) ∧ some k_ ≠ (.slice Ao22 l0.length co22 : Value).ownBlock) (.slice (some ⟨go31, 0, none⟩) y257.length co34) y257 from (by (with_reducible repeat (first | apply Kd.qo_ | apply Kd.qp_)); exact HO_8.out)))); (try (obtain ⟨ce35, hcl35, hM35, hcc35, hfr35⟩ := Kd.R_elem HX35.out z34 (a1_2 : Int) (of_decide_eq_true (by assumption)) (by have h_ : (a1_2 : Int) < ((y257.length : Int) : Int) := of_decide_eq_true (by assumption); first | exact h_ | (have e_ := (Kd.R_reads' HO_8.out).1; omega) | simpa using h_))); (try (obtain rfl := k34_openM hM35)); (try (have HP35 := Kd.R_seg HX35.out (a1_2 : Int) (of_decide_eq_true (by assumption)) (by have h_ : (a1_2 : Int) < ((y257.length : Int) : Int) := of_decide_eq_true (by assumption); first | exact h_ | (have e_ := (Kd.R_reads' HO_8.out).1; omega) | simpa using h_) (seg := [.int .i64 (wrap64 (((rd_T34 y257 a1_2).f2) + 1))]) (j := 2) hcl35 hcc35 (show 3 ≤ 5 from by decide) (x' := (⟨(rd_T34 y257 a1_2).f0, (rd_T34 y257 a1_2).f1, wrap64 (((rd_T34 y257 a1_2).f2) + 1), (rd_T34 y257 a1_2).f3, (rd_T34 y257 a1_2).f4⟩ : S34)) (k34_mkM _ _ _ (⟨(rd_T34 y257 a1_2).f0, (rd_T34 y257 a1_2).f1, wrap64 (((rd_T34 y257 a1_2).f2) + 1), (rd_T34 y257 a1_2).f3, (rd_T34 y257 a1_2).f4⟩ : S34) ) (fun _ hk => hk))); (try (have hx35_2 := hcc35 2 _ rfl)); (try (try simp only [show (k34).sz = 5 from rfl, Nat.mul_one, Nat.add_zero] at hx35_2)); (try (have hf35_2 := hfr35 2)); (try (try simp only [show (k34).sz = 5 from rfl, Nat.mul_one, Nat.add_zero] at hf35_2)); (try (clear hcl35 hcc35 hfr35 hM35)))); refine store_event (t := 3) (p := 58) (v := ?vo_w36) (w1 := (wc.setCell ⟨go31, (a1_2 : Int).toNat * 5 + 2, none⟩ (.int .i64 (wrap64 (((rd_T34 y257 a1_2).f2) + 1))))) ?hg ?ho ?hn ?hr ?_; (case ho => rfl); (case hg => rfl); (case hn => rfl); (case hr => first | (go_simp; done) | (go_simp; rfl)); intro w36 hw; have hg : wc.grownBy w36 (some go31) := (by rw [hw]; exact HP35.2); have hp_ : Kd.R k34 34 w36 w0.heap.size (fun k_ => (P0_ k_ ∨ w.heap.size ≤ k_) ∧ some k_ ≠ (.slice Ao22 l0.length co22 : Value).ownBlock) (.slice (some ⟨go31, 0, none⟩) y257.length co34) y264 := (by rw [hw, Ny264.out]; exact HP35.1); clear HP35; have n0_ := qi_.mk (Kd.R_after (v := (.slice (some ⟨go31, 0, none⟩) y257.length co34)) (v1 := (.slice (some ⟨go31, 0, none⟩) y257.length co34)) (ok := (fun k_ => (P0_ k_ ∨ w.heap.size ≤ k_))) (by (with_reducible repeat (first | apply Kd.qo_ | apply Kd.qp_)); exact HO_0.out) hg (.inl rfl)); have n1_ := qi_.mk (hp_); have n2_ := qi_.mk (blk_grown (g := gb256) (o := .cells #[.int .i64 a1_0, .int .i64 a1_1, .int .i64 a1_2, .int .i64 a1_3, .string a1_4, .slice A1_5 l1_5.length c1_5] 43 (0, 0)) (by (with_reducible repeat (first | refine qd_ ?_ _ | refine qh_ ?_)); exact BK256.out) hg (Kd.R_ne HO_8.out BK256.out (by decide))); have n3_ := qi_.mk ((by rw [hw]; exact qf_ (HB.out) GB31.out : Below w0.heap.size w0 w36)); have n4_ := qi_.mk (Kept.of_grown (S := (fun k_ => P0_ k_)) hg (by repeat (first | (with_reducible first | exact HK.out | apply Kept.alloc | apply Kept.drewN | apply Kept.drew | refine Kept.setCell ?_ (.inr GW256.out) _) | exact HK.out)) (fun k_ e_ => (HO_8.out.1 k_ e_).1)); clear HO_0; clear HO_8; clear BK256; clear HB; clear HK; have HO_0 := n0_; have HO_8 := n1_; have BK256 := n2_; have HB := n3_; have HK := n4_; clear n0_ n1_ n2_ n3_ n4_; clear hg hw hp_; have hcz37_0 : w36.cell? ⟨gb256, 0, none⟩ = some (.int .i64 a1_0) := (qb_ BK256.out 0).trans rfl; have hcz37_1 : w36.cell? ⟨gb256, 1, none⟩ = some (.int .i64 a1_1) := (qb_ BK256.out 1).trans rfl; have hcz37_2 : w36.cell? ⟨gb256, 2, none⟩ = some (.int .i64 a1_2) := (qb_ BK256.out 2).trans rfl; have hcz37_3 : w36.cell? ⟨gb256, 3, none⟩ = some (.int .i64 a1_3) := (qb_ BK256.out 3).trans rfl; have hcz37_4 : w36.cell? ⟨gb256, 4, none⟩ = some (.string a1_4) := (qb_ BK256.out 4).trans rfl; have hcz37_5 : w36.cell? ⟨gb256, 5, none⟩ = some (.slice A1_5 l1_5.length c1_5) := (qb_ BK256.out 5).trans rfl; have hfz37_0 := qg_ BK256.out 0; have hfz37_1 := qg_ BK256.out 1; have hfz37_2 := qg_ BK256.out 2; have hfz37_3 := qg_ BK256.out 3; have hfz37_4 := qg_ BK256.out 4; have hfz37_5 := qg_ BK256.out 5; have p32 : 0 ≤ (a1_2 : Int) := of_decide_eq_true (by assumption); have q32 : (a1_2 : Int) < ((y257.length : Int) : Int) := of_decide_eq_true (by assumption); obtain ⟨ce32, hcl32, hM32, hcc32, hfr32⟩ := Kd.R_elem HO_8.out z34 (a1_2 : Int) p32 q32; obtain rfl := k34_openM hM32; have hx32_0 : w36.cell? ⟨go31, (a1_2 : Int).toNat * 5, none⟩ = some (.int .i64 ((rd_T34 y264 a1_2).f0)) := hcc32 0 _ rfl; have hx32_1 : w36.cell? ⟨go31, (a1_2 : Int).toNat * 5 + 1, none⟩ = some (.int .i64 ((rd_T34 y264 a1_2).f1)) := hcc32 1 _ rfl; have hx32_2 : w36.cell? ⟨go31, (a1_2 : Int).toNat * 5 + 2, none⟩ = some (.int .i64 ((rd_T34 y264 a1_2).f2)) := hcc32 2 _ rfl; have hx32_3 : w36.cell? ⟨go31, (a1_2 : Int).toNat * 5 + 3, none⟩ = some (.bool ((rd_T34 y264 a1_2).f3)) := hcc32 3 _ rfl; have hx32_4 : w36.cell? ⟨go31, (a1_2 : Int).toNat * 5 + 4, none⟩ = some (.bool ((rd_T34 y264 a1_2).f4)) := hcc32 4 _ rfl; have hf32_0 : w36.frozen? ⟨go31, (a1_2 : Int).toNat * 5, none⟩ = false := hfr32 0; have hf32_1 : w36.frozen? ⟨go31, (a1_2 : Int).toNat * 5 + 1, none⟩ = false := hfr32 1; have hf32_2 : w36.frozen? ⟨go31, (a1_2 : Int).toNat * 5 + 2, none⟩ = false := hfr32 2; have hf32_3 : w36.frozen? ⟨go31, (a1_2 : Int).toNat * 5 + 3, none⟩ = false := hfr32 3; have hf32_4 : w36.frozen? ⟨go31, (a1_2 : Int).toNat * 5 + 4, none⟩ = false := hfr32 4; clear hcl32 hcc32 hfr32 hM32; replace p32 := eq_true p32; replace q32 := eq_true q32; have HX38 := qi_.mk (show Kd.R k34 34 w36 w0.heap.size (fun k_ => (P0_ k_ ∨ w.heap.size ≤ k_) ∧ some k_ ≠ (.slice Ao22 l0.length co22 : Value).ownBlock) (.slice (some ⟨go31, 0, none⟩) y257.length co34) y264 from (by (with_reducible repeat (first | apply Kd.qo_ | apply Kd.qp_)); exact HO_8.out)); obtain ⟨ce38, hcl38, hM38, hcc38, hfr38⟩ := Kd.R_elem HX38.out z34 (a1_2 : Int) (of_decide_eq_true (by assumption)) (by have h_ : (a1_2 : Int) < ((y257.length : Int) : Int) := of_decide_eq_true (by assumption); first | exact h_ | (have e_ := (Kd.R_reads' HO_8.out).1; omega) | simpa using h_); obtain rfl := k34_openM hM38; have HP38 := Kd.R_seg HX38.out (a1_2 : Int) (of_decide_eq_true (by assumption)) (by have h_ : (a1_2 : Int) < ((y257.length : Int) : Int) := of_decide_eq_true (by assumption); first | exact h_ | (have e_ := (Kd.R_reads' HO_8.out).1; omega) | simpa using h_) (seg := [.bool false]) (j := 4) hcl38 hcc38 (show 5 ≤ 5 from by decide) (x' := (⟨(rd_T34 y264 a1_2).f0, (rd_T34 y264 a1_2).f1, (rd_T34 y264 a1_2).f2, (rd_T34 y264 a1_2).f3, false⟩ : S34)) (k34_mkM _ _ _ (⟨(rd_T34 y264 a1_2).f0, (rd_T34 y264 a1_2).f1, (rd_T34 y264 a1_2).f2, (rd_T34 y264 a1_2).f3, false⟩ : S34) ) (fun _ hk => hk); have hx38_4 := hcc38 4 _ rfl; (try simp only [show (k34).sz = 5 from rfl, Nat.mul_one, Nat.add_zero] at hx38_4); have hf38_4 := hfr38 4; (try simp only [show (k34).sz = 5 from rfl, Nat.mul_one, Nat.add_zero] at hf38_4); clear hcl38 hcc38 hfr38 hM38) | ((with_reducible refine gate_store (t := 4) (p := 63) rfl ?_); (try (rw [drewN_self w36]; generalize hq_ : World.drewN w36 _ = w36; have n0_ := qi_.mk (Kd.R_at hq_ HO_0.out); have n1_ := qi_.mk (Kd.R_at hq_ HO_8.out); have n2_ := qi_.mk (blk_at hq_ BK256.out); have n3_ := qi_.mk (kept_at hq_ HK.out); have n4_ := qi_.mk (below_at hq_ HB.out); clear hq_ HO_0 HO_8 BK256 HK HB; have HO_0 := n0_; have HO_8 := n1_; have BK256 := n2_; have HK := n3_; have HB := n4_; clear n0_ n1_ n2_ n3_ n4_; (try (have HX38 := qi_.mk (show Kd.R k34 34 w36 w0.heap.size (fun k_ => (P0_ k_ ∨ w.heap.size ≤ k_) ∧ some k_ ≠ (.slice Ao22 l0.length co22 : Value).ownBlock) (.slice (some ⟨go31, 0, none⟩) y257.length co34) y264 from (by (with_reducible repeat (first | apply Kd.qo_ | apply Kd.qp_)); exact HO_8.out)))); (try (obtain ⟨ce38, hcl38, hM38, hcc38, hfr38⟩ := Kd.R_elem HX38.out z34 (a1_2 : Int) (of_decide_eq_true (by assumption)) (by have h_ : (a1_2 : Int) < ((y257.length : Int) : Int) := of_decide_eq_true (by assumption); first | exact h_ | (have e_ := (Kd.R_reads' HO_8.out).1; omega) | simpa using h_))); (try (obtain rfl := k34_openM hM38)); (try (have HP38 := Kd.R_seg HX38.out (a1_2 : Int) (of_decide_eq_true (by assumption)) (by have h_ : (a1_2 : Int) < ((y257.length : Int) : Int) := of_decide_eq_true (by assumption); first | exact h_ | (have e_ := (Kd.R_reads' HO_8.out).1; omega) | simpa using h_) (seg := [.bool false]) (j := 4) hcl38 hcc38 (show 5 ≤ 5 from by decide) (x' := (⟨(rd_T34 y264 a1_2).f0, (rd_T34 y264 a1_2).f1, (rd_T34 y264 a1_2).f2, (rd_T34 y264 a1_2).f3, false⟩ : S34)) (k34_mkM _ _ _ (⟨(rd_T34 y264 a1_2).f0, (rd_T34 y264 a1_2).f1, (rd_T34 y264 a1_2).f2, (rd_T34 y264 a1_2).f3, false⟩ : S34) ) (fun _ hk => hk))); (try (have hx38_4 := hcc38 4 _ rfl)); (try (try simp only [show (k34).sz = 5 from rfl, Nat.mul_one, Nat.add_zero] at hx38_4)); (try (have hf38_4 := hfr38 4)); (try (try simp only [show (k34).sz = 5 from rfl, Nat.mul_one, Nat.add_zero] at hf38_4)); (try (clear hcl38 hcc38 hfr38 hM38)))); refine store_event (t := 4) (p := 63) (v := ?vo_w39) (w1 := (w36.setCell ⟨go31, (a1_2 : Int).toNat * 5 + 4, none⟩ (.bool false))) ?hg ?ho ?hn ?hr ?_; (case ho => rfl); (case hg => rfl); (case hn => rfl); (case hr => first | (go_simp; done) | (go_simp; rfl)); intro w39 hw; have hg : w36.grownBy w39 (some go31) := (by rw [hw]; exact HP38.2); have hp_ : Kd.R k34 34 w39 w0.heap.size (fun k_ => (P0_ k_ ∨ w.heap.size ≤ k_) ∧ some k_ ≠ (.slice Ao22 l0.length co22 : Value).ownBlock) (.slice (some ⟨go31, 0, none⟩) y257.length co34) y265 := (by rw [hw, Ny265.out]; exact HP38.1); clear HP38; have n0_ := qi_.mk (Kd.R_after (v := (.slice (some ⟨go31, 0, none⟩) y257.length co34)) (v1 := (.slice (some ⟨go31, 0, none⟩) y257.length co34)) (ok := (fun k_ => (P0_ k_ ∨ w.heap.size ≤ k_))) (by (with_reducible repeat (first | apply Kd.qo_ | apply Kd.qp_)); exact HO_0.out) hg (.inl rfl)); have n1_ := qi_.mk (hp_); have n2_ := qi_.mk (blk_grown (g := gb256) (o := .cells #[.int .i64 a1_0, .int .i64 a1_1, .int .i64 a1_2, .int .i64 a1_3, .string a1_4, .slice A1_5 l1_5.length c1_5] 43 (0, 0)) (by (with_reducible repeat (first | refine qd_ ?_ _ | refine qh_ ?_)); exact BK256.out) hg (Kd.R_ne HO_8.out BK256.out (by decide))); have n3_ := qi_.mk ((by rw [hw]; exact qf_ (HB.out) GB31.out : Below w0.heap.size w0 w39)); have n4_ := qi_.mk (Kept.of_grown (S := (fun k_ => P0_ k_)) hg (by repeat (first | (with_reducible first | exact HK.out | apply Kept.alloc | apply Kept.drewN | apply Kept.drew | refine Kept.setCell ?_ (.inr GW256.out) _) | exact HK.out)) (fun k_ e_ => (HO_8.out.1 k_ e_).1)); clear HO_0; clear HO_8; clear BK256; clear HB; clear HK; have HO_0 := n0_; have HO_8 := n1_; have BK256 := n2_; have HB := n3_; have HK := n4_; clear n0_ n1_ n2_ n3_ n4_; clear hg hw hp_)); try go_wp2_with (first | ((with_reducible refine gate_store (t := 3) (p := 58) rfl ?_); (try (rw [drewN_self wc]; generalize hq_ : World.drewN wc _ = wc; have n0_ := qi_.mk (Kd.R_at hq_ HO_0.out); have n1_ := qi_.mk (Kd.R_at hq_ HO_8.out); have n2_ := qi_.mk (blk_at hq_ BK256.out); have n3_ := qi_.mk (kept_at hq_ HK.out); have n4_ := qi_.mk (below_at hq_ HB.out); clear hq_ HO_0 HO_8 BK256 HK HB; have HO_0 := n0_; have HO_8 := n1_; have BK256 := n2_; have HK := n3_; have HB := n4_; clear n0_ n1_ n2_ n3_ n4_; (try (have HX35 := qi_.mk (show Kd.R k34 34 wc w0.heap.size (fun k_ => (P0_ k_ ∨ w.heap.size ≤ k_) ∧ some k_ ≠ (.slice Ao22 l0.length co22 : Value).ownBlock) (.slice (some ⟨go31, 0, none⟩) y257.length co34) y257 from (by (with_reducible repeat (first | apply Kd.qo_ | apply Kd.qp_)); exact HO_8.out)))); (try (obtain ⟨ce35, hcl35, hM35, hcc35, hfr35⟩ := Kd.R_elem HX35.out z34 (a1_2 : Int) (of_decide_eq_true (by assumption)) (by have h_ : (a1_2 : Int) < ((y257.length : Int) : Int) := of_decide_eq_true (by assumption); first | exact h_ | (have e_ := (Kd.R_reads' HO_8.out).1; omega) | simpa using h_))); (try (obtain rfl := k34_openM hM35)); (try (have HP35 := Kd.R_seg HX35.out (a1_2 : Int) (of_decide_eq_true (by assumption)) (by have h_ : (a1_2 : Int) < ((y257.length : Int) : Int) := of_decide_eq_true (by assumption); first | exact h_ | (have e_ := (Kd.R_reads' HO_8.out).1; omega) | simpa using h_) (seg := [.int .i64 (wrap64 (((rd_T34 y257 a1_2).f2) + 1))]) (j := 2) hcl35 hcc35 (show 3 ≤ 5 from by decide) (x' := (⟨(rd_T34 y257 a1_2).f0, (rd_T34 y257 a1_2).f1, wrap64 (((rd_T34 y257 a1_2).f2) + 1), (rd_T34 y257 a1_2).f3, (rd_T34 y257 a1_2).f4⟩ : S34)) (k34_mkM _ _ _ (⟨(rd_T34 y257 a1_2).f0, (rd_T34 y257 a1_2).f1, wrap64 (((rd_T34 y257 a1_2).f2) + 1), (rd_T34 y257 a1_2).f3, (rd_T34 y257 a1_2).f4⟩ : S34) ) (fun _ hk => hk))); (try (have hx35_2 := hcc35 2 _ rfl)); (try (try simp only [show (k34).sz = 5 from rfl, Nat.mul_one, Nat.add_zero] at hx35_2)); (try (have hf35_2 := hfr35 2)); (try (try simp only [show (k34).sz = 5 from rfl, Nat.mul_one, Nat.add_zero] at hf35_2)); (try (clear hcl35 hcc35 hfr35 hM35)))); refine store_event (t := 3) (p := 58) (v := ?vo_w36) (w1 := (wc.setCell ⟨go31, (a1_2 : Int).toNat * 5 + 2, none⟩ (.int .i64 (wrap64 (((rd_T34 y257 a1_2).f2) + 1))))) ?hg ?ho ?hn ?hr ?_; (case ho => rfl); (case hg => rfl); (case hn => rfl); (case hr => first | (go_simp; done) | (go_simp; rfl)); intro w36 hw; have hg : wc.grownBy w36 (some go31) := (by rw [hw]; exact HP35.2); have hp_ : Kd.R k34 34 w36 w0.heap.size (fun k_ => (P0_ k_ ∨ w.heap.size ≤ k_) ∧ some k_ ≠ (.slice Ao22 l0.length co22 : Value).ownBlock) (.slice (some ⟨go31, 0, none⟩) y257.length co34) y264 := (by rw [hw, Ny264.out]; exact HP35.1); clear HP35; have n0_ := qi_.mk (Kd.R_after (v := (.slice (some ⟨go31, 0, none⟩) y257.length co34)) (v1 := (.slice (some ⟨go31, 0, none⟩) y257.length co34)) (ok := (fun k_ => (P0_ k_ ∨ w.heap.size ≤ k_))) (by (with_reducible repeat (first | apply Kd.qo_ | apply Kd.qp_)); exact HO_0.out) hg (.inl rfl)); have n1_ := qi_.mk (hp_); have n2_ := qi_.mk (blk_grown (g := gb256) (o := .cells #[.int .i64 a1_0, .int .i64 a1_1, .int .i64 a1_2, .int .i64 a1_3, .string a1_4, .slice A1_5 l1_5.length c1_5] 43 (0, 0)) (by (with_reducible repeat (first | refine qd_ ?_ _ | refine qh_ ?_)); exact BK256.out) hg (Kd.R_ne HO_8.out BK256.out (by decide))); have n3_ := qi_.mk ((by rw [hw]; exact qf_ (HB.out) GB31.out : Below w0.heap.size w0 w36)); have n4_ := qi_.mk (Kept.of_grown (S := (fun k_ => P0_ k_)) hg (by repeat (first | (with_reducible first | exact HK.out | apply Kept.alloc | apply Kept.drewN | apply Kept.drew | refine Kept.setCell ?_ (.inr GW256.out) _) | exact HK.out)) (fun k_ e_ => (HO_8.out.1 k_ e_).1)); clear HO_0; clear HO_8; clear BK256; clear HB; clear HK; have HO_0 := n0_; have HO_8 := n1_; have BK256 := n2_; have HB := n3_; have HK := n4_; clear n0_ n1_ n2_ n3_ n4_; clear hg hw hp_; have hcz37_0 : w36.cell? ⟨gb256, 0, none⟩ = some (.int .i64 a1_0) := (qb_ BK256.out 0).trans rfl; have hcz37_1 : w36.cell? ⟨gb256, 1, none⟩ = some (.int .i64 a1_1) := (qb_ BK256.out 1).trans rfl; have hcz37_2 : w36.cell? ⟨gb256, 2, none⟩ = some (.int .i64 a1_2) := (qb_ BK256.out 2).trans rfl; have hcz37_3 : w36.cell? ⟨gb256, 3, none⟩ = some (.int .i64 a1_3) := (qb_ BK256.out 3).trans rfl; have hcz37_4 : w36.cell? ⟨gb256, 4, none⟩ = some (.string a1_4) := (qb_ BK256.out 4).trans rfl; have hcz37_5 : w36.cell? ⟨gb256, 5, none⟩ = some (.slice A1_5 l1_5.length c1_5) := (qb_ BK256.out 5).trans rfl; have hfz37_0 := qg_ BK256.out 0; have hfz37_1 := qg_ BK256.out 1; have hfz37_2 := qg_ BK256.out 2; have hfz37_3 := qg_ BK256.out 3; have hfz37_4 := qg_ BK256.out 4; have hfz37_5 := qg_ BK256.out 5; have p32 : 0 ≤ (a1_2 : Int) := of_decide_eq_true (by assumption); have q32 : (a1_2 : Int) < ((y257.length : Int) : Int) := of_decide_eq_true (by assumption); obtain ⟨ce32, hcl32, hM32, hcc32, hfr32⟩ := Kd.R_elem HO_8.out z34 (a1_2 : Int) p32 q32; obtain rfl := k34_openM hM32; have hx32_0 : w36.cell? ⟨go31, (a1_2 : Int).toNat * 5, none⟩ = some (.int .i64 ((rd_T34 y264 a1_2).f0)) := hcc32 0 _ rfl; have hx32_1 : w36.cell? ⟨go31, (a1_2 : Int).toNat * 5 + 1, none⟩ = some (.int .i64 ((rd_T34 y264 a1_2).f1)) := hcc32 1 _ rfl; have hx32_2 : w36.cell? ⟨go31, (a1_2 : Int).toNat * 5 + 2, none⟩ = some (.int .i64 ((rd_T34 y264 a1_2).f2)) := hcc32 2 _ rfl; have hx32_3 : w36.cell? ⟨go31, (a1_2 : Int).toNat * 5 + 3, none⟩ = some (.bool ((rd_T34 y264 a1_2).f3)) := hcc32 3 _ rfl; have hx32_4 : w36.cell? ⟨go31, (a1_2 : Int).toNat * 5 + 4, none⟩ = some (.bool ((rd_T34 y264 a1_2).f4)) := hcc32 4 _ rfl; have hf32_0 : w36.frozen? ⟨go31, (a1_2 : Int).toNat * 5, none⟩ = false := hfr32 0; have hf32_1 : w36.frozen? ⟨go31, (a1_2 : Int).toNat * 5 + 1, none⟩ = false := hfr32 1; have hf32_2 : w36.frozen? ⟨go31, (a1_2 : Int).toNat * 5 + 2, none⟩ = false := hfr32 2; have hf32_3 : w36.frozen? ⟨go31, (a1_2 : Int).toNat * 5 + 3, none⟩ = false := hfr32 3; have hf32_4 : w36.frozen? ⟨go31, (a1_2 : Int).toNat * 5 + 4, none⟩ = false := hfr32 4; clear hcl32 hcc32 hfr32 hM32; replace p32 := eq_true p32; replace q32 := eq_true q32; have HX38 := qi_.mk (show Kd.R k34 34 w36 w0.heap.size (fun k_ => (P0_ k_ ∨ w.heap.size ≤ k_) ∧ some k_ ≠ (.slice Ao22 l0.length co22 : Value).ownBlock) (.slice (some ⟨go31, 0, none⟩) y257.length co34) y264 from (by (with_reducible repeat (first | apply Kd.qo_ | apply Kd.qp_)); exact HO_8.out)); obtain ⟨ce38, hcl38, hM38, hcc38, hfr38⟩ := Kd.R_elem HX38.out z34 (a1_2 : Int) (of_decide_eq_true (by assumption)) (by have h_ : (a1_2 : Int) < ((y257.length : Int) : Int) := of_decide_eq_true (by assumption); first | exact h_ | (have e_ := (Kd.R_reads' HO_8.out).1; omega) | simpa using h_); obtain rfl := k34_openM hM38; have HP38 := Kd.R_seg HX38.out (a1_2 : Int) (of_decide_eq_true (by assumption)) (by have h_ : (a1_2 : Int) < ((y257.length : Int) : Int) := of_decide_eq_true (by assumption); first | exact h_ | (have e_ := (Kd.R_reads' HO_8.out).1; omega) | simpa using h_) (seg := [.bool false]) (j := 4) hcl38 hcc38 (show 5 ≤ 5 from by decide) (x' := (⟨(rd_T34 y264 a1_2).f0, (rd_T34 y264 a1_2).f1, (rd_T34 y264 a1_2).f2, (rd_T34 y264 a1_2).f3, false⟩ : S34)) (k34_mkM _ _ _ (⟨(rd_T34 y264 a1_2).f0, (rd_T34 y264 a1_2).f1, (rd_T34 y264 a1_2).f2, (rd_T34 y264 a1_2).f3, false⟩ : S34) ) (fun _ hk => hk); have hx38_4 := hcc38 4 _ rfl; (try simp only [show (k34).sz = 5 from rfl, Nat.mul_one, Nat.add_zero] at hx38_4); have hf38_4 := hfr38 4; (try simp only [show (k34).sz = 5 from rfl, Nat.mul_one, Nat.add_zero] at hf38_4); clear hcl38 hcc38 hfr38 hM38) | ((with_reducible refine gate_store (t := 4) (p := 63) rfl ?_); (try (rw [drewN_self w36]; generalize hq_ : World.drewN w36 _ = w36; have n0_ := qi_.mk (Kd.R_at hq_ HO_0.out); have n1_ := qi_.mk (Kd.R_at hq_ HO_8.out); have n2_ := qi_.mk (blk_at hq_ BK256.out); have n3_ := qi_.mk (kept_at hq_ HK.out); have n4_ := qi_.mk (below_at hq_ HB.out); clear hq_ HO_0 HO_8 BK256 HK HB; have HO_0 := n0_; have HO_8 := n1_; have BK256 := n2_; have HK := n3_; have HB := n4_; clear n0_ n1_ n2_ n3_ n4_; (try (have HX38 := qi_.mk (show Kd.R k34 34 w36 w0.heap.size (fun k_ => (P0_ k_ ∨ w.heap.size ≤ k_) ∧ some k_ ≠ (.slice Ao22 l0.length co22 : Value).ownBlock) (.slice (some ⟨go31, 0, none⟩) y257.length co34) y264 from (by (with_reducible repeat (first | apply Kd.qo_ | apply Kd.qp_)); exact HO_8.out)))); (try (obtain ⟨ce38, hcl38, hM38, hcc38, hfr38⟩ := Kd.R_elem HX38.out z34 (a1_2 : Int) (of_decide_eq_true (by assumption)) (by have h_ : (a1_2 : Int) < ((y257.length : Int) : Int) := of_decide_eq_true (by assumption); first | exact h_ | (have e_ := (Kd.R_reads' HO_8.out).1; omega) | simpa using h_))); (try (obtain rfl := k34_openM hM38)); (try (have HP38 := Kd.R_seg HX38.out (a1_2 : Int) (of_decide_eq_true (by assumption)) (by have h_ : (a1_2 : Int) < ((y257.length : Int) : Int) := of_decide_eq_true (by assumption); first | exact h_ | (have e_ := (Kd.R_reads' HO_8.out).1; omega) | simpa using h_) (seg := [.bool false]) (j := 4) hcl38 hcc38 (show 5 ≤ 5 from by decide) (x' := (⟨(rd_T34 y264 a1_2).f0, (rd_T34 y264 a1_2).f1, (rd_T34 y264 a1_2).f2, (rd_T34 y264 a1_2).f3, false⟩ : S34)) (k34_mkM _ _ _ (⟨(rd_T34 y264 a1_2).f0, (rd_T34 y264 a1_2).f1, (rd_T34 y264 a1_2).f2, (rd_T34 y264 a1_2).f3, false⟩ : S34) ) (fun _ hk => hk))); (try (have hx38_4 := hcc38 4 _ rfl)); (try (try simp only [show (k34).sz = 5 from rfl, Nat.mul_one, Nat.add_zero] at hx38_4)); (try (have hf38_4 := hfr38 4)); (try (try simp only [show (k34).sz = 5 from rfl, Nat.mul_one, Nat.add_zero] at hf38_4)); (try (clear hcl38 hcc38 hfr38 hM38)))); refine store_event (t := 4) (p := 63) (v := ?vo_w39) (w1 := (w36.setCell ⟨go31, (a1_2 : Int).toNat * 5 + 4, none⟩ (.bool false))) ?hg ?ho ?hn ?hr ?_; (case ho => rfl); (case hg => rfl); (case hn => rfl); (case hr => first | (go_simp; done) | (go_simp; rfl)); intro w39 hw; have hg : w36.grownBy w39 (some go31) := (by rw [hw]; exact HP38.2); have hp_ : Kd.R k34 34 w39 w0.heap.size (fun k_ => (P0_ k_ ∨ w.heap.size ≤ k_) ∧ some k_ ≠ (.slice Ao22 l0.length co22 : Value).ownBlock) (.slice (some ⟨go31, 0, none⟩) y257.length co34) y265 := (by rw [hw, Ny265.out]; exact HP38.1); clear HP38; have n0_ := qi_.mk (Kd.R_after (v := (.slice (some ⟨go31, 0, none⟩) y257.length co34)) (v1 := (.slice (some ⟨go31, 0, none⟩) y257.length co34)) (ok := (fun k_ => (P0_ k_ ∨ w.heap.size ≤ k_))) (by (with_reducible repeat (first | apply Kd.qo_ | apply Kd.qp_)); exact HO_0.out) hg (.inl rfl)); have n1_ := qi_.mk (hp_); have n2_ := qi_.mk (blk_grown (g := gb256) (o := .cells #[.int .i64 a1_0, .int .i64 a1_1, .int .i64 a1_2, .int .i64 a1_3, .string a1_4, .slice A1_5 l1_5.length c1_5] 43 (0, 0)) (by (with_reducible repeat (first | refine qd_ ?_ _ | refine qh_ ?_)); exact BK256.out) hg (Kd.R_ne HO_8.out BK256.out (by decide))); have n3_ := qi_.mk ((by rw [hw]; exact qf_ (HB.out) GB31.out : Below w0.heap.size w0 w39)); have n4_ := qi_.mk (Kept.of_grown (S := (fun k_ => P0_ k_)) hg (by repeat (first | (with_reducible first | exact HK.out | apply Kept.alloc | apply Kept.drewN | apply Kept.drew | refine Kept.setCell ?_ (.inr GW256.out) _) | exact HK.out)) (fun k_ e_ => (HO_8.out.1 k_ e_).1)); clear HO_0; clear HO_8; clear BK256; clear HB; clear HK; have HO_0 := n0_; have HO_8 := n1_; have BK256 := n2_; have HB := n3_; have HK := n4_; clear n0_ n1_ n2_ n3_ n4_; clear hg hw hp_)))
         go_ret2
         exact ⟨_, by first | rfl | (simp [*] <;> rfl), by (with_reducible repeat (first | apply Kd.qo_ | apply Kd.qp_)); exact Kd.R_mono HO_8.out (fun _ hk => hk.1), by repeat (first | (with_reducible first | exact HB.out | apply qe_ | apply qa_ | apply qc_ | refine qf_ ?_ GE256.out) | exact HB.out), by repeat (first | (with_reducible first | exact HK.out | apply Kept.alloc | apply Kept.drewN | apply Kept.drew | refine Kept.setCell ?_ (.inr GW256.out) _) | exact HK.out)⟩
        ·rw [if_neg c30] at H
         exact absurd H (by simp)
       ·rw [if_neg c29] at H
        exact absurd H (by simp)
      ·rw [if_neg c28] at H
       have c28b0 : (a1_0 == 2) = false := beq_eq_false_iff_ne.mpr c28
       have c28b1 : (a1_0 != 2) = true := bne_iff_ne.mpr c28
       by_cases c40 : 0 ≤ a1_2
       ·rw [if_pos c40] at H
        have c40b0 : decide (0 ≤ a1_2) = true := decide_eq_true c40
        clear c40
        by_cases c41 : a1_2 < (l0.length : Int)
        ·rw [if_pos c41] at H
         have c41b0 : decide (a1_2 < (l0.length : Int)) = true := decide_eq_true c41
         clear c41
         obtain ⟨bq42, hbq42⟩ : ∃ b_ : Bool, b_ = ((rd_T34 l0 a1_2).f4) := ⟨_, rfl⟩
         replace H : (if bq42 = true then (some (l0, 11)) else (if ((rd_T34 l0 a1_2).f0) = a1_1 then (if a1_2 < (y257.length : Int) then (some ((y257.set (a1_2 : Int).toNat (⟨(rd_T34 y257 a1_2).f0, (rd_T34 y257 a1_2).f1, (rd_T34 y257 a1_2).f2, (rd_T34 y257 a1_2).f3, true⟩ : S34)), 0)) else (none)) else (some (l0, 13)))) = some (r1, r2) := by rw [← hbq42] at H; exact H
         have Nbq42 := qi_.mk hbq42
         clear hbq42
         by_cases c43 : bq42 = true
         ·subst c43
          have H1 : (some (l0, 11)) = some (r1, r2) := by rw [if_pos rfl] at H; exact H
          clear H
          have H := H1
          clear H1
          simp only [Option.some.injEq, Prod.mk.injEq] at H
          obtain ⟨rfl, rfl⟩ := H
          have hcz44_0 : wc.cell? ⟨gb256, 0, none⟩ = some (.int .i64 a1_0) := (qb_ BK256.out 0).trans rfl
          have hcz44_1 : wc.cell? ⟨gb256, 1, none⟩ = some (.int .i64 a1_1) := (qb_ BK256.out 1).trans rfl
          have hcz44_2 : wc.cell? ⟨gb256, 2, none⟩ = some (.int .i64 a1_2) := (qb_ BK256.out 2).trans rfl
          have hcz44_3 : wc.cell? ⟨gb256, 3, none⟩ = some (.int .i64 a1_3) := (qb_ BK256.out 3).trans rfl
          have hcz44_4 : wc.cell? ⟨gb256, 4, none⟩ = some (.string a1_4) := (qb_ BK256.out 4).trans rfl
          have hcz44_5 : wc.cell? ⟨gb256, 5, none⟩ = some (.slice A1_5 l1_5.length c1_5) := (qb_ BK256.out 5).trans rfl
          have hfz44_0 := qg_ BK256.out 0
          have hfz44_1 := qg_ BK256.out 1
          have hfz44_2 := qg_ BK256.out 2
          have hfz44_3 := qg_ BK256.out 3
          have hfz44_4 := qg_ BK256.out 4
          have hfz44_5 := qg_ BK256.out 5
          have p266 : 0 ≤ (a1_2 : Int) := of_decide_eq_true (by assumption)
          have q266 : a1_2 < (l0.length : Int) := of_decide_eq_true (by assumption)
          obtain ⟨ad266, e266, hx266_0, hx266_1, hx266_2, hx266_3, hx266_4⟩ := at_T34 (Kd.R_reads' HO_0.out).2.2 a1_2 p266 q266
          (try rw [← Nbq42.out] at hx266_3)
          (try rw [← Nbq42.out] at hx266_4)
          cases e266
          replace p266 := eq_true p266
          replace q266 := eq_true q266
          go_wp2
          repeat (go_quiet (fail); try go_wp2)
          go_ret2
          exact ⟨_, by first | rfl | (simp [*] <;> rfl), by (with_reducible repeat (first | apply Kd.qo_ | apply Kd.qp_)); exact Kd.R_mono HO_0.out (fun _ hk => hk.1), by repeat (first | (with_reducible first | exact HB.out | apply qe_ | apply qa_ | apply qc_ | refine qf_ ?_ GE256.out) | exact HB.out), by repeat (first | (with_reducible first | exact HK.out | apply Kept.alloc | apply Kept.drewN | apply Kept.drew | refine Kept.setCell ?_ (.inr GW256.out) _) | exact HK.out)⟩
         ·replace c43 := Bool.eq_false_iff.mpr c43
          subst c43
          have H1 : (if ((rd_T34 l0 a1_2).f0) = a1_1 then (if a1_2 < (y257.length : Int) then (some ((y257.set (a1_2 : Int).toNat (⟨(rd_T34 y257 a1_2).f0, (rd_T34 y257 a1_2).f1, (rd_T34 y257 a1_2).f2, (rd_T34 y257 a1_2).f3, true⟩ : S34)), 0)) else (none)) else (some (l0, 13))) = some (r1, r2) := by rw [if_neg (show ¬ (false = true) by decide)] at H; exact H
          clear H
          have H := H1
          clear H1
          by_cases c45 : ((rd_T34 l0 a1_2).f0) = a1_1
          ·rw [if_pos c45] at H
           have c45b0 : (((rd_T34 l0 a1_2).f0) == a1_1) = true := beq_iff_eq.mpr c45
           have c45b1 : (((rd_T34 l0 a1_2).f0) != a1_1) = false := bne_eq_false_iff_eq.mpr c45
           clear c45
           by_cases c46 : a1_2 < (y257.length : Int)
           ·rw [if_pos c46] at H
            have c46b0 : decide (a1_2 < (y257.length : Int)) = true := decide_eq_true c46
            clear c46
            obtain ⟨y268, hy268⟩ : ∃ y_ : List (S34), y_ = (y257.set (a1_2 : Int).toNat (⟨(rd_T34 y257 a1_2).f0, (rd_T34 y257 a1_2).f1, (rd_T34 y257 a1_2).f2, (rd_T34 y257 a1_2).f3, true⟩ : S34)) := ⟨_, rfl⟩
            replace H : (some (y268, 0)) = some (r1, r2) := by first | (rw [hy268]; with_reducible exact H) | (have H2_ := (Option.bind_some _ _).symm.trans H; rw [hy268]; with_reducible exact H2_) | (have H2_ := (Option.bind_some _ _).symm.trans H; with_reducible exact H2_) | with_reducible exact H | (rw [hy268]; exact H) | exact H
            have Ny268 := qi_.mk hy268
            clear hy268
            simp only [Option.some.injEq, Prod.mk.injEq] at H
            obtain ⟨rfl, rfl⟩ := H
            have hcz48_0 : wc.cell? ⟨gb256, 0, none⟩ = some (.int .i64 a1_0) := (qb_ BK256.out 0).trans rfl
            have hcz48_1 : wc.cell? ⟨gb256, 1, none⟩ = some (.int .i64 a1_1) := (qb_ BK256.out 1).trans rfl
            have hcz48_2 : wc.cell? ⟨gb256, 2, none⟩ = some (.int .i64 a1_2) := (qb_ BK256.out 2).trans rfl
            have hcz48_3 : wc.cell? ⟨gb256, 3, none⟩ = some (.int .i64 a1_3) := (qb_ BK256.out 3).trans rfl
            have hcz48_4 : wc.cell? ⟨gb256, 4, none⟩ = some (.string a1_4) := (qb_ BK256.out 4).trans rfl
            have hcz48_5 : wc.cell? ⟨gb256, 5, none⟩ = some (.slice A1_5 l1_5.length c1_5) := (qb_ BK256.out 5).trans rfl
            have hfz48_0 := qg_ BK256.out 0
            have hfz48_1 := qg_ BK256.out 1
            have hfz48_2 := qg_ BK256.out 2
            have hfz48_3 := qg_ BK256.out 3
            have hfz48_4 := qg_ BK256.out 4
            have hfz48_5 := qg_ BK256.out 5
            have p266 : 0 ≤ (a1_2 : Int) := of_decide_eq_true (by assumption)
            have q266 : a1_2 < (l0.length : Int) := of_decide_eq_true (by assumption)
            obtain ⟨ad266, e266, hx266_0, hx266_1, hx266_2, hx266_3, hx266_4⟩ := at_T34 (Kd.R_reads' HO_0.out).2.2 a1_2 p266 q266
            (try rw [← Nbq42.out] at hx266_3)
            (try rw [← Nbq42.out] at hx266_4)
            cases e266
            replace p266 := eq_true p266
            replace q266 := eq_true q266
            have p267 : 0 ≤ (a1_2 : Int) := of_decide_eq_true (by assumption)
            have q267 : a1_2 < (l0.length : Int) := of_decide_eq_true (by assumption)
            obtain ⟨ad267, e267, hx267_0, hx267_1, hx267_2, hx267_3, hx267_4⟩ := at_T34 (Kd.R_reads' HO_0.out).2.2 a1_2 p267 q267
            (try rw [← Nbq42.out] at hx267_3)
            (try rw [← Nbq42.out] at hx267_4)
            obtain rfl : ad266 = ad267 := (by injection e267)
            replace p267 := eq_true p267
            replace q267 := eq_true q267
            have p47 : 0 ≤ (a1_2 : Int) := of_decide_eq_true (by assumption)
            have q47 : (a1_2 : Int) < ((y257.length : Int) : Int) := of_decide_eq_true (by assumption)
            obtain ⟨go47, co47, eo47, gb47, gl47, cl47, HG47⟩ := Kd.R_form HO_8.out (by omega)
            (first | cases eo47 | (injection eo47 with ea_ en_ ec_; (first | subst ea_ | (injection ea_ with ea_; subst ea_)); subst ec_; clear en_))
            have GB47 := qi_.mk gb47
            have GG47 := qi_.mk HG47
            clear gb47 gl47 HG47
            have HMgo47 := qi_.mk (show (P0_ go47 ∨ w.heap.size ≤ go47) from (HO_8.out.1 _ rfl).1)
            obtain ⟨ce47, hcl47, hM47, hcc47, hfr47⟩ := Kd.R_elem HO_8.out z34 (a1_2 : Int) p47 q47
            obtain rfl := k34_openM hM47
            have hx47_0 : wc.cell? ⟨go47, (a1_2 : Int).toNat * 5, none⟩ = some (.int .i64 ((rd_T34 y257 a1_2).f0)) := hcc47 0 _ rfl
            have hx47_1 : wc.cell? ⟨go47, (a1_2 : Int).toNat * 5 + 1, none⟩ = some (.int .i64 ((rd_T34 y257 a1_2).f1)) := hcc47 1 _ rfl
            have hx47_2 : wc.cell? ⟨go47, (a1_2 : Int).toNat * 5 + 2, none⟩ = some (.int .i64 ((rd_T34 y257 a1_2).f2)) := hcc47 2 _ rfl
            have hx47_3 : wc.cell? ⟨go47, (a1_2 : Int).toNat * 5 + 3, none⟩ = some (.bool ((rd_T34 y257 a1_2).f3)) := hcc47 3 _ rfl
            have hx47_4 : wc.cell? ⟨go47, (a1_2 : Int).toNat * 5 + 4, none⟩ = some (.bool ((rd_T34 y257 a1_2).f4)) := hcc47 4 _ rfl
            have hf47_0 : wc.frozen? ⟨go47, (a1_2 : Int).toNat * 5, none⟩ = false := hfr47 0
            have hf47_1 : wc.frozen? ⟨go47, (a1_2 : Int).toNat * 5 + 1, none⟩ = false := hfr47 1
            have hf47_2 : wc.frozen? ⟨go47, (a1_2 : Int).toNat * 5 + 2, none⟩ = false := hfr47 2
            have hf47_3 : wc.frozen? ⟨go47, (a1_2 : Int).toNat * 5 + 3, none⟩ = false := hfr47 3
            have hf47_4 : wc.frozen? ⟨go47, (a1_2 : Int).toNat * 5 + 4, none⟩ = false := hfr47 4
            clear hcl47 hcc47 hfr47 hM47
            replace p47 := eq_true p47
            replace q47 := eq_true q47
            have HX49 := qi_.mk (show Kd.R k34 34 wc w0.heap.size (fun k_ => (P0_ k_ ∨ w.heap.size ≤ k_) ∧ some k_ ≠ (.slice (some ad266) l0.length co22 : Value).ownBlock) (.slice (some ⟨go47, 0, none⟩) y257.length co47) y257 from (by (with_reducible repeat (first | apply Kd.qo_ | apply Kd.qp_)); exact HO_8.out))
            obtain ⟨ce49, hcl49, hM49, hcc49, hfr49⟩ := Kd.R_elem HX49.out z34 (a1_2 : Int) (of_decide_eq_true (by assumption)) (by have h_ : (a1_2 : Int) < ((y257.length : Int) : Int) := of_decide_eq_true (by assumption); first | exact h_ | (have e_ := (Kd.R_reads' HO_8.out).1; omega) | simpa using h_)
            obtain rfl := k34_openM hM49
            have HP49 := Kd.R_seg HX49.out (a1_2 : Int) (of_decide_eq_true (by assumption)) (by have h_ : (a1_2 : Int) < ((y257.length : Int) : Int) := of_decide_eq_true (by assumption); first | exact h_ | (have e_ := (Kd.R_reads' HO_8.out).1; omega) | simpa using h_) (seg := [.bool true]) (j := 4) hcl49 hcc49 (show 5 ≤ 5 from by decide) (x' := (⟨(rd_T34 y257 a1_2).f0, (rd_T34 y257 a1_2).f1, (rd_T34 y257 a1_2).f2, (rd_T34 y257 a1_2).f3, true⟩ : S34)) (k34_mkM _ _ _ (⟨(rd_T34 y257 a1_2).f0, (rd_T34 y257 a1_2).f1, (rd_T34 y257 a1_2).f2, (rd_T34 y257 a1_2).f3, true⟩ : S34) ) (fun _ hk => hk)
            have hx49_4 := hcc49 4 _ rfl
            (try simp only [show (k34).sz = 5 from rfl, Nat.mul_one, Nat.add_zero] at hx49_4)
            have hf49_4 := hfr49 4
            (try simp only [show (k34).sz = 5 from rfl, Nat.mul_one, Nat.add_zero] at hf49_4)
            clear hcl49 hcc49 hfr49 hM49
            go_wp2_with (first | ((with_reducible refine gate_store (t := 4) (p := 86) rfl ?_); (try (rw [drewN_self wc]; generalize hq_ : World.drewN wc _ = wc; have n0_ := qi_.mk (Kd.R_at hq_ HO_0.out); have n1_ := qi_.mk (Kd.R_at hq_ HO_8.out); have n2_ := qi_.mk (blk_at hq_ BK256.out); have n3_ := qi_.mk (kept_at hq_ HK.out); have n4_ := qi_.mk (below_at hq_ HB.out); clear hq_ HO_0 HO_8 BK256 HK HB; have HO_0 := n0_; have HO_8 := n1_; have BK256 := n2_; have HK := n3_; have HB := n4_; clear n0_ n1_ n2_ n3_ n4_; (try (have HX49 := qi_.mk (show Kd.R k34 34 wc w0.heap.size (fun k_ => (P0_ k_ ∨ w.heap.size ≤ k_) ∧ some k_ ≠ (.slice (some ad266) l0.length co22 : Value).ownBlock) (.slice (some ⟨go47, 0, none⟩) y257.length co47) y257 from (by (with_reducible repeat (first | apply Kd.qo_ | apply Kd.qp_)); exact HO_8.out)))); (try (obtain ⟨ce49, hcl49, hM49, hcc49, hfr49⟩ := Kd.R_elem HX49.out z34 (a1_2 : Int) (of_decide_eq_true (by assumption)) (by have h_ : (a1_2 : Int) < ((y257.length : Int) : Int) := of_decide_eq_true (by assumption); first | exact h_ | (have e_ := (Kd.R_reads' HO_8.out).1; omega) | simpa using h_))); (try (obtain rfl := k34_openM hM49)); (try (have HP49 := Kd.R_seg HX49.out (a1_2 : Int) (of_decide_eq_true (by assumption)) (by have h_ : (a1_2 : Int) < ((y257.length : Int) : Int) := of_decide_eq_true (by assumption); first | exact h_ | (have e_ := (Kd.R_reads' HO_8.out).1; omega) | simpa using h_) (seg := [.bool true]) (j := 4) hcl49 hcc49 (show 5 ≤ 5 from by decide) (x' := (⟨(rd_T34 y257 a1_2).f0, (rd_T34 y257 a1_2).f1, (rd_T34 y257 a1_2).f2, (rd_T34 y257 a1_2).f3, true⟩ : S34)) (k34_mkM _ _ _ (⟨(rd_T34 y257 a1_2).f0, (rd_T34 y257 a1_2).f1, (rd_T34 y257 a1_2).f2, (rd_T34 y257 a1_2).f3, true⟩ : S34) ) (fun _ hk => hk))); (try (have hx49_4 := hcc49 4 _ rfl)); (try (try simp only [show (k34).sz = 5 from rfl, Nat.mul_one, Nat.add_zero] at hx49_4)); (try (have hf49_4 := hfr49 4)); (try (try simp only [show (k34).sz = 5 from rfl, Nat.mul_one, Nat.add_zero] at hf49_4)); (try (clear hcl49 hcc49 hfr49 hM49)))); refine store_event (t := 4) (p := 86) (v := ?vo_w50) (w1 := (wc.setCell ⟨go47, (a1_2 : Int).toNat * 5 + 4, none⟩ (.bool true))) ?hg ?ho ?hn ?hr ?_; (case ho => rfl); (case hg => rfl); (case hn => rfl); (case hr => first | (go_simp; done) | (go_simp; rfl)); intro w50 hw; have hg : wc.grownBy w50 (some go47) := (by rw [hw]; exact HP49.2); have hp_ : Kd.R k34 34 w50 w0.heap.size (fun k_ => (P0_ k_ ∨ w.heap.size ≤ k_) ∧ some k_ ≠ (.slice (some ad266) l0.length co22 : Value).ownBlock) (.slice (some ⟨go47, 0, none⟩) y257.length co47) y268 := (by rw [hw, Ny268.out]; exact HP49.1); clear HP49; have n0_ := qi_.mk (Kd.R_after (v := (.slice (some ⟨go47, 0, none⟩) y257.length co47)) (v1 := (.slice (some ⟨go47, 0, none⟩) y257.length co47)) (ok := (fun k_ => (P0_ k_ ∨ w.heap.size ≤ k_))) (by (with_reducible repeat (first | apply Kd.qo_ | apply Kd.qp_)); exact HO_0.out) hg (.inl rfl)); have n1_ := qi_.mk (hp_); have n2_ := qi_.mk (blk_grown (g := gb256) (o := .cells #[.int .i64 a1_0, .int .i64 a1_1, .int .i64 a1_2, .int .i64 a1_3, .string a1_4, .slice A1_5 l1_5.length c1_5] 43 (0, 0)) (by (with_reducible repeat (first | refine qd_ ?_ _ | refine qh_ ?_)); exact BK256.out) hg (Kd.R_ne HO_8.out BK256.out (by decide))); have n3_ := qi_.mk ((by rw [hw]; exact qf_ (HB.out) GB47.out : Below w0.heap.size w0 w50)); have n4_ := qi_.mk (Kept.of_grown (S := (fun k_ => P0_ k_)) hg (by repeat (first | (with_reducible first | exact HK.out | apply Kept.alloc | apply Kept.drewN | apply Kept.drew | refine Kept.setCell ?_ (.inr GW256.out) _) | exact HK.out)) (fun k_ e_ => (HO_8.out.1 k_ e_).1)); clear HO_0; clear HO_8; clear BK256; clear HB; clear HK; have HO_0 := n0_; have HO_8 := n1_; have BK256 := n2_; have HB := n3_; have HK := n4_; clear n0_ n1_ n2_ n3_ n4_; clear hg hw hp_))
            repeat (go_quiet (first | ((with_reducible refine gate_store (t := 4) (p := 86) rfl ?_); (try (rw [drewN_self wc]; generalize hq_ : World.drewN wc _ = wc; have n0_ := qi_.mk (Kd.R_at hq_ HO_0.out); have n1_ := qi_.mk (Kd.R_at hq_ HO_8.out); have n2_ := qi_.mk (blk_at hq_ BK256.out); have n3_ := qi_.mk (kept_at hq_ HK.out); have n4_ := qi_.mk (below_at hq_ HB.out); clear hq_ HO_0 HO_8 BK256 HK HB; have HO_0 := n0_; have HO_8 := n1_; have BK256 := n2_; have HK := n3_; have HB := n4_; clear n0_ n1_ n2_ n3_ n4_; (try (have HX49 := qi_.mk (show Kd.R k34 34 wc w0.heap.size (fun k_ => (P0_ k_ ∨ w.heap.size ≤ k_) ∧ some k_ ≠ (.slice (some ad266) l0.length co22 : Value).ownBlock) (.slice (some ⟨go47, 0, none⟩) y257.length co47) y257 from (by (with_reducible repeat (first | apply Kd.qo_ | apply Kd.qp_)); exact HO_8.out)))); (try (obtain ⟨ce49, hcl49, hM49, hcc49, hfr49⟩ := Kd.R_elem HX49.out z34 (a1_2 : Int) (of_decide_eq_true (by assumption)) (by have h_ : (a1_2 : Int) < ((y257.length : Int) : Int) := of_decide_eq_true (by assumption); first | exact h_ | (have e_ := (Kd.R_reads' HO_8.out).1; omega) | simpa using h_))); (try (obtain rfl := k34_openM hM49)); (try (have HP49 := Kd.R_seg HX49.out (a1_2 : Int) (of_decide_eq_true (by assumption)) (by have h_ : (a1_2 : Int) < ((y257.length : Int) : Int) := of_decide_eq_true (by assumption); first | exact h_ | (have e_ := (Kd.R_reads' HO_8.out).1; omega) | simpa using h_) (seg := [.bool true]) (j := 4) hcl49 hcc49 (show 5 ≤ 5 from by decide) (x' := (⟨(rd_T34 y257 a1_2).f0, (rd_T34 y257 a1_2).f1, (rd_T34 y257 a1_2).f2, (rd_T34 y257 a1_2).f3, true⟩ : S34)) (k34_mkM _ _ _ (⟨(rd_T34 y257 a1_2).f0, (rd_T34 y257 a1_2).f1, (rd_T34 y257 a1_2).f2, (rd_T34 y257 a1_2).f3, true⟩ : S34) ) (fun _ hk => hk))); (try (have hx49_4 := hcc49 4 _ rfl)); (try (try simp only [show (k34).sz = 5 from rfl, Nat.mul_one, Nat.add_zero] at hx49_4)); (try (have hf49_4 := hfr49 4)); (try (try simp only [show (k34).sz = 5 from rfl, Nat.mul_one, Nat.add_zero] at hf49_4)); (try (clear hcl49 hcc49 hfr49 hM49)))); refine store_event (t := 4) (p := 86) (v := ?vo_w50) (w1 := (wc.setCell ⟨go47, (a1_2 : Int).toNat * 5 + 4, none⟩ (.bool true))) ?hg ?ho ?hn ?hr ?_; (case ho => rfl); (case hg => rfl); (case hn => rfl); (case hr => first | (go_simp; done) | (go_simp; rfl)); intro w50 hw; have hg : wc.grownBy w50 (some go47) := (by rw [hw]; exact HP49.2); have hp_ : Kd.R k34 34 w50 w0.heap.size (fun k_ => (P0_ k_ ∨ w.heap.size ≤ k_) ∧ some k_ ≠ (.slice (some ad266) l0.length co22 : Value).ownBlock) (.slice (some ⟨go47, 0, none⟩) y257.length co47) y268 := (by rw [hw, Ny268.out]; exact HP49.1); clear HP49; have n0_ := qi_.mk (Kd.R_after (v := (.slice (some ⟨go47, 0, none⟩) y257.length co47)) (v1 := (.slice (some ⟨go47, 0, none⟩) y257.length co47)) (ok := (fun k_ => (P0_ k_ ∨ w.heap.size ≤ k_))) (by (with_reducible repeat (first | apply Kd.qo_ | apply Kd.qp_)); exact HO_0.out) hg (.inl rfl)); have n1_ := qi_.mk (hp_); have n2_ := qi_.mk (blk_grown (g := gb256) (o := .cells #[.int .i64 a1_0, .int .i64 a1_1, .int .i64 a1_2, .int .i64 a1_3, .string a1_4, .slice A1_5 l1_5.length c1_5] 43 (0, 0)) (by (with_reducible repeat (first | refine qd_ ?_ _ | refine qh_ ?_)); exact BK256.out) hg (Kd.R_ne HO_8.out BK256.out (by decide))); have n3_ := qi_.mk ((by rw [hw]; exact qf_ (HB.out) GB47.out : Below w0.heap.size w0 w50)); have n4_ := qi_.mk (Kept.of_grown (S := (fun k_ => P0_ k_)) hg (by repeat (first | (with_reducible first | exact HK.out | apply Kept.alloc | apply Kept.drewN | apply Kept.drew | refine Kept.setCell ?_ (.inr GW256.out) _) | exact HK.out)) (fun k_ e_ => (HO_8.out.1 k_ e_).1)); clear HO_0; clear HO_8; clear BK256; clear HB; clear HK; have HO_0 := n0_; have HO_8 := n1_; have BK256 := n2_; have HB := n3_; have HK := n4_; clear n0_ n1_ n2_ n3_ n4_; clear hg hw hp_)); try go_wp2_with (first | ((with_reducible refine gate_store (t := 4) (p := 86) rfl ?_); (try (rw [drewN_self wc]; generalize hq_ : World.drewN wc _ = wc; have n0_ := qi_.mk (Kd.R_at hq_ HO_0.out); have n1_ := qi_.mk (Kd.R_at hq_ HO_8.out); have n2_ := qi_.mk (blk_at hq_ BK256.out); have n3_ := qi_.mk (kept_at hq_ HK.out); have n4_ := qi_.mk (below_at hq_ HB.out); clear hq_ HO_0 HO_8 BK256 HK HB; have HO_0 := n0_; have HO_8 := n1_; have BK256 := n2_; have HK := n3_; have HB := n4_; clear n0_ n1_ n2_ n3_ n4_; (try (have HX49 := qi_.mk (show Kd.R k34 34 wc w0.heap.size (fun k_ => (P0_ k_ ∨ w.heap.size ≤ k_) ∧ some k_ ≠ (.slice (some ad266) l0.length co22 : Value).ownBlock) (.slice (some ⟨go47, 0, none⟩) y257.length co47) y257 from (by (with_reducible repeat (first | apply Kd.qo_ | apply Kd.qp_)); exact HO_8.out)))); (try (obtain ⟨ce49, hcl49, hM49, hcc49, hfr49⟩ := Kd.R_elem HX49.out z34 (a1_2 : Int) (of_decide_eq_true (by assumption)) (by have h_ : (a1_2 : Int) < ((y257.length : Int) : Int) := of_decide_eq_true (by assumption); first | exact h_ | (have e_ := (Kd.R_reads' HO_8.out).1; omega) | simpa using h_))); (try (obtain rfl := k34_openM hM49)); (try (have HP49 := Kd.R_seg HX49.out (a1_2 : Int) (of_decide_eq_true (by assumption)) (by have h_ : (a1_2 : Int) < ((y257.length : Int) : Int) := of_decide_eq_true (by assumption); first | exact h_ | (have e_ := (Kd.R_reads' HO_8.out).1; omega) | simpa using h_) (seg := [.bool true]) (j := 4) hcl49 hcc49 (show 5 ≤ 5 from by decide) (x' := (⟨(rd_T34 y257 a1_2).f0, (rd_T34 y257 a1_2).f1, (rd_T34 y257 a1_2).f2, (rd_T34 y257 a1_2).f3, true⟩ : S34)) (k34_mkM _ _ _ (⟨(rd_T34 y257 a1_2).f0, (rd_T34 y257 a1_2).f1, (rd_T34 y257 a1_2).f2, (rd_T34 y257 a1_2).f3, true⟩ : S34) ) (fun _ hk => hk))); (try (have hx49_4 := hcc49 4 _ rfl)); (try (try simp only [show (k34).sz = 5 from rfl, Nat.mul_one, Nat.add_zero] at hx49_4)); (try (have hf49_4 := hfr49 4)); (try (try simp only [show (k34).sz = 5 from rfl, Nat.mul_one, Nat.add_zero] at hf49_4)); (try (clear hcl49 hcc49 hfr49 hM49)))); refine store_event (t := 4) (p := 86) (v := ?vo_w50) (w1 := (wc.setCell ⟨go47, (a1_2 : Int).toNat * 5 + 4, none⟩ (.bool true))) ?hg ?ho ?hn ?hr ?_; (case ho => rfl); (case hg => rfl); (case hn => rfl); (case hr => first | (go_simp; done) | (go_simp; rfl)); intro w50 hw; have hg : wc.grownBy w50 (some go47) := (by rw [hw]; exact HP49.2); have hp_ : Kd.R k34 34 w50 w0.heap.size (fun k_ => (P0_ k_ ∨ w.heap.size ≤ k_) ∧ some k_ ≠ (.slice (some ad266) l0.length co22 : Value).ownBlock) (.slice (some ⟨go47, 0, none⟩) y257.length co47) y268 := (by rw [hw, Ny268.out]; exact HP49.1); clear HP49; have n0_ := qi_.mk (Kd.R_after (v := (.slice (some ⟨go47, 0, none⟩) y257.length co47)) (v1 := (.slice (some ⟨go47, 0, none⟩) y257.length co47)) (ok := (fun k_ => (P0_ k_ ∨ w.heap.size ≤ k_))) (by (with_reducible repeat (first | apply Kd.qo_ | apply Kd.qp_)); exact HO_0.out) hg (.inl rfl)); have n1_ := qi_.mk (hp_); have n2_ := qi_.mk (blk_grown (g := gb256) (o := .cells #[.int .i64 a1_0, .int .i64 a1_1, .int .i64 a1_2, .int .i64 a1_3, .string a1_4, .slice A1_5 l1_5.length c1_5] 43 (0, 0)) (by (with_reducible repeat (first | refine qd_ ?_ _ | refine qh_ ?_)); exact BK256.out) hg (Kd.R_ne HO_8.out BK256.out (by decide))); have n3_ := qi_.mk ((by rw [hw]; exact qf_ (HB.out) GB47.out : Below w0.heap.size w0 w50)); have n4_ := qi_.mk (Kept.of_grown (S := (fun k_ => P0_ k_)) hg (by repeat (first | (with_reducible first | exact HK.out | apply Kept.alloc | apply Kept.drewN | apply Kept.drew | refine Kept.setCell ?_ (.inr GW256.out) _) | exact HK.out)) (fun k_ e_ => (HO_8.out.1 k_ e_).1)); clear HO_0; clear HO_8; clear BK256; clear HB; clear HK; have HO_0 := n0_; have HO_8 := n1_; have BK256 := n2_; have HB := n3_; have HK := n4_; clear n0_ n1_ n2_ n3_ n4_; clear hg hw hp_)))
            go_ret2
            exact ⟨_, by first | rfl | (simp [*] <;> rfl), by (with_reducible repeat (first | apply Kd.qo_ | apply Kd.qp_)); exact Kd.R_mono HO_8.out (fun _ hk => hk.1), by repeat (first | (with_reducible first | exact HB.out | apply qe_ | apply qa_ | apply qc_ | refine qf_ ?_ GE256.out) | exact HB.out), by repeat (first | (with_reducible first | exact HK.out | apply Kept.alloc | apply Kept.drewN | apply Kept.drew | refine Kept.setCell ?_ (.inr GW256.out) _) | exact HK.out)⟩
           ·rw [if_neg c46] at H
            exact absurd H (by simp)
          ·rw [if_neg c45] at H
           have c45b0 : (((rd_T34 l0 a1_2).f0) == a1_1) = false := beq_eq_false_iff_ne.mpr c45
           have c45b1 : (((rd_T34 l0 a1_2).f0) != a1_1) = true := bne_iff_ne.mpr c45
           simp only [Option.some.injEq, Prod.mk.injEq] at H
           obtain ⟨rfl, rfl⟩ := H
           have hcz51_0 : wc.cell? ⟨gb256, 0, none⟩ = some (.int .i64 a1_0) := (qb_ BK256.out 0).trans rfl
           have hcz51_1 : wc.cell? ⟨gb256, 1, none⟩ = some (.int .i64 a1_1) := (qb_ BK256.out 1).trans rfl
           have hcz51_2 : wc.cell? ⟨gb256, 2, none⟩ = some (.int .i64 a1_2) := (qb_ BK256.out 2).trans rfl
           have hcz51_3 : wc.cell? ⟨gb256, 3, none⟩ = some (.int .i64 a1_3) := (qb_ BK256.out 3).trans rfl
           have hcz51_4 : wc.cell? ⟨gb256, 4, none⟩ = some (.string a1_4) := (qb_ BK256.out 4).trans rfl
           have hcz51_5 : wc.cell? ⟨gb256, 5, none⟩ = some (.slice A1_5 l1_5.length c1_5) := (qb_ BK256.out 5).trans rfl
           have hfz51_0 := qg_ BK256.out 0
           have hfz51_1 := qg_ BK256.out 1
           have hfz51_2 := qg_ BK256.out 2
           have hfz51_3 := qg_ BK256.out 3
           have hfz51_4 := qg_ BK256.out 4
           have hfz51_5 := qg_ BK256.out 5
           have p266 : 0 ≤ (a1_2 : Int) := of_decide_eq_true (by assumption)
           have q266 : a1_2 < (l0.length : Int) := of_decide_eq_true (by assumption)
           obtain ⟨ad266, e266, hx266_0, hx266_1, hx266_2, hx266_3, hx266_4⟩ := at_T34 (Kd.R_reads' HO_0.out).2.2 a1_2 p266 q266
           (try rw [← Nbq42.out] at hx266_3)
           (try rw [← Nbq42.out] at hx266_4)
           cases e266
           replace p266 := eq_true p266
           replace q266 := eq_true q266
           have p267 : 0 ≤ (a1_2 : Int) := of_decide_eq_true (by assumption)
           have q267 : a1_2 < (l0.length : Int) := of_decide_eq_true (by assumption)
           obtain ⟨ad267, e267, hx267_0, hx267_1, hx267_2, hx267_3, hx267_4⟩ := at_T34 (Kd.R_reads' HO_0.out).2.2 a1_2 p267 q267
           (try rw [← Nbq42.out] at hx267_3)
           (try rw [← Nbq42.out] at hx267_4)
           obtain rfl : ad266 = ad267 := (by injection e267)
           replace p267 := eq_true p267
           replace q267 := eq_true q267
           go_wp2
           repeat (go_quiet (fail); try go_wp2)
           go_ret2
           exact ⟨_, by first | rfl | (simp [*] <;> rfl), by (with_reducible repeat (first | apply Kd.qo_ | apply Kd.qp_)); exact Kd.R_mono HO_0.out (fun _ hk => hk.1), by repeat (first | (with_reducible first | exact HB.out | apply qe_ | apply qa_ | apply qc_ | refine qf_ ?_ GE256.out) | exact HB.out), by repeat (first | (with_reducible first | exact HK.out | apply Kept.alloc | apply Kept.drewN | apply Kept.drew | refine Kept.setCell ?_ (.inr GW256.out) _) | exact HK.out)⟩
        ·rw [if_neg c41] at H
         exact absurd H (by simp)
       ·rw [if_neg c40] at H
        exact absurd H (by simp)
 ·rw [if_neg c4] at H
  exact absurd H (by simp)

end Go.Proofs.Ytjpdcnaealdbjaa.PTh
