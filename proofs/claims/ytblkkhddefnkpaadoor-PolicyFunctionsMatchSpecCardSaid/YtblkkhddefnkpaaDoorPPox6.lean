-- printed by drv.py (a program of this repo, over the kit's printer)
import Derived.Test.YtblkkhddefnkpaaDoorPPox0
import Derived.Test.YtblkkhddefnkpaaDoorPPox1
import Derived.Test.YtblkkhddefnkpaaDoorPPox5
namespace Go.Proofs.YtblkkhddefnkpaaDoor.PPo
open Go.RowKit Go.Proofs.YtblkkhddefnkpaaDoorW.PrintWords Go.Proofs.YtblkkhddefnkpaaDoorW.PrintLast Go.Proofs.YtblkkhddefnkpaaDoorW.PrintMore
attribute [local go_sem] max2_int min2_int max_two min_two max_three min_three max_four min_four   -- for this text's walks alone
set_option linter.unusedVariables false
set_option linter.unusedSimpArgs false

attribute [local go_sem high] eqA28
/-! ### qC_: function 10 -/
mutual
def qC_.j0 : Nat → Bool → List (S47) → Int → Bool → Bool → Int → Option (Bool × Int × Int)
 | 0, _, _, _, _, _, _ => none
 | k + 1, x34, x176000, x177000, x177001, x177002, x177003 => if x34 = true then (some (false, 3, (-2))) else (qC_.l0 k ([] : List Bool) x176000 (x176000.length : Int) 0 x177000 x177001 x177002 x177003)
def qC_.l0 : Nat → List Bool → List (S47) → Int → Int → Int → Bool → Bool → Int → Option (Bool × Int × Int)
 | 0, _, _, _, _, _, _, _, _ => none
 | k + 1, x7, x37, x38, x39, x177000, x177001, x177002, x177003 => if x39 < x38 then (if 0 ≤ x39 then (if x39 < (x37.length : Int) then (if ((qj_ x37 x39).f0) = 1 then (qC_.j2 k x7 (decide (x177000 ≥ ((qj_ x37 x39).f1))) x37 x38 x39 x177000 x177001 x177002 x177003) else (if ((qj_ x37 x39).f0) = 2 then (qC_.j2 k x7 x177001 x37 x38 x39 x177000 x177001 x177002 x177003) else (if ((qj_ x37 x39).f0) = 3 then (qC_.j2 k x7 x177002 x37 x38 x39 x177000 x177001 x177002 x177003) else (if ((qj_ x37 x39).f0) = 4 then (if 0 ≤ ((qj_ x37 x39).f1) then (qC_.j2 k x7 ((Go.bits .and .i64 (shr .i64 x177003 ((qj_ x37 x39).f1)) 1) == 1) x37 x38 x39 x177000 x177001 x177002 x177003) else (none)) else (if ((qj_ x37 x39).f0) = 5 then (if 0 ≤ ((qj_ x37 x39).f2) then (if ((qj_ x37 x39).f2) < (x7.length : Int) then (qC_.j2 k x7 (!(rdOf false x7 ((qj_ x37 x39).f2))) x37 x38 x39 x177000 x177001 x177002 x177003) else (none)) else (none)) else (if ((qj_ x37 x39).f0) = 6 then (if 0 ≤ ((qj_ x37 x39).f2) then (if ((qj_ x37 x39).f2) < (x7.length : Int) then (if rdOf false x7 ((qj_ x37 x39).f2) = true then (if 0 ≤ ((qj_ x37 x39).f3) then (if ((qj_ x37 x39).f3) < (x7.length : Int) then (qC_.j2 k x7 (rdOf false x7 ((qj_ x37 x39).f3)) x37 x38 x39 x177000 x177001 x177002 x177003) else (none)) else (none)) else (qC_.j2 k x7 false x37 x38 x39 x177000 x177001 x177002 x177003)) else (none)) else (none)) else (if 0 ≤ ((qj_ x37 x39).f2) then (if ((qj_ x37 x39).f2) < (x7.length : Int) then (if rdOf false x7 ((qj_ x37 x39).f2) = true then (qC_.j2 k x7 true x37 x38 x39 x177000 x177001 x177002 x177003) else (if 0 ≤ ((qj_ x37 x39).f3) then (if ((qj_ x37 x39).f3) < (x7.length : Int) then (qC_.j2 k x7 (rdOf false x7 ((qj_ x37 x39).f3)) x37 x38 x39 x177000 x177001 x177002 x177003) else (none)) else (none))) else (none)) else (none)))))))) else (none)) else (none)) else (if 0 ≤ (wrap64 ((x7.length : Int) - 1)) then (if (wrap64 ((x7.length : Int) - 1)) < (x7.length : Int) then (some (rdOf false x7 (wrap64 ((x7.length : Int) - 1)), 0, 0)) else (none)) else (none))
def qC_.j2 : Nat → List Bool → Bool → List (S47) → Int → Int → Int → Bool → Bool → Int → Option (Bool × Int × Int)
 | 0, _, _, _, _, _, _, _, _, _ => none
 | k + 1, x7, x10, x37, x38, x39, x177000, x177001, x177002, x177003 => if x7.length < 140737488355328 then (qC_.l0 k (x7 ++ [x10]) x37 x38 (wrap64 (x39 + 1)) x177000 x177001 x177002 x177003) else (none)
end
def qC_.f (k : Nat) (l0_0 : List (S47)) (a1_0 : Int) (a1_1 : Bool) (a1_2 : Bool) (a1_3 : Int) : Option (Bool × Int × Int) := (qw_.f k l0_0).bind fun bt178 => (if (bt178.1 == 0 && (bt178.2 == 0)) = true then (if a1_0 < (-1000000000) then (qC_.j0 k true l0_0 a1_0 a1_1 a1_2 a1_3) else (if a1_0 > 1000000000 then (qC_.j0 k true l0_0 a1_0 a1_1 a1_2 a1_3) else (if a1_3 < 0 then (qC_.j0 k true l0_0 a1_0 a1_1 a1_2 a1_3) else (qC_.j0 k (decide (a1_3 ≥ 256)) l0_0 a1_0 a1_1 a1_2 a1_3)))) else (some (false, bt178.1, bt178.2)))
theorem qC_.mono_l : ∀ k, (∀ y0 y1 y2 y3 y4 y5, LeO (qC_.j0 k y0 y1 y2 y3 y4 y5) (qC_.j0 (k + 1) y0 y1 y2 y3 y4 y5)) ∧ (∀ y0 y1 y2 y3 y4 y5 y6 y7, LeO (qC_.l0 k y0 y1 y2 y3 y4 y5 y6 y7) (qC_.l0 (k + 1) y0 y1 y2 y3 y4 y5 y6 y7)) ∧ (∀ y0 y1 y2 y3 y4 y5 y6 y7 y8, LeO (qC_.j2 k y0 y1 y2 y3 y4 y5 y6 y7 y8) (qC_.j2 (k + 1) y0 y1 y2 y3 y4 y5 y6 y7 y8))
 | 0 => ⟨fun _ _ _ _ _ _ r h => by simp [qC_.j0] at h, fun _ _ _ _ _ _ _ _ r h => by simp [qC_.l0] at h, fun _ _ _ _ _ _ _ _ _ r h => by simp [qC_.j2] at h⟩
 | k + 1 => by
  obtain ⟨ih0, ih1, ih2⟩ := qC_.mono_l k
  refine ⟨?_, ?_, ?_⟩
  ·intro y0 y1 y2 y3 y4 y5
   unfold qC_.j0
   repeat' first
   | (with_reducible exact ih0 _ _ _ _ _ _)
   | (with_reducible exact ih1 _ _ _ _ _ _ _ _)
   | (with_reducible exact ih2 _ _ _ _ _ _ _ _ _)
   | (with_reducible exact qw_.mono _ _)
   | (with_reducible exact LeO.refl _)
   | (with_reducible exact LeO.none _)
   | (with_reducible refine LeO.ite ?_ ?_)
   | (with_reducible refine LeO.bind ?_ (fun _ => ?_))
   | exact ih0 _ _ _ _ _ _
   | exact ih1 _ _ _ _ _ _ _ _
   | exact ih2 _ _ _ _ _ _ _ _ _
   | exact qw_.mono _ _
   | exact LeO.none _
   | refine LeO.ite ?_ ?_
   | refine LeO.bind ?_ (fun _ => ?_)
  ·intro y0 y1 y2 y3 y4 y5 y6 y7
   unfold qC_.l0
   repeat' first
   | (with_reducible exact ih0 _ _ _ _ _ _)
   | (with_reducible exact ih1 _ _ _ _ _ _ _ _)
   | (with_reducible exact ih2 _ _ _ _ _ _ _ _ _)
   | (with_reducible exact qw_.mono _ _)
   | (with_reducible exact LeO.refl _)
   | (with_reducible exact LeO.none _)
   | (with_reducible refine LeO.ite ?_ ?_)
   | (with_reducible refine LeO.bind ?_ (fun _ => ?_))
   | exact ih0 _ _ _ _ _ _
   | exact ih1 _ _ _ _ _ _ _ _
   | exact ih2 _ _ _ _ _ _ _ _ _
   | exact qw_.mono _ _
   | exact LeO.none _
   | refine LeO.ite ?_ ?_
   | refine LeO.bind ?_ (fun _ => ?_)
  ·intro y0 y1 y2 y3 y4 y5 y6 y7 y8
   unfold qC_.j2
   repeat' first
   | (with_reducible exact ih0 _ _ _ _ _ _)
   | (with_reducible exact ih1 _ _ _ _ _ _ _ _)
   | (with_reducible exact ih2 _ _ _ _ _ _ _ _ _)
   | (with_reducible exact qw_.mono _ _)
   | (with_reducible exact LeO.refl _)
   | (with_reducible exact LeO.none _)
   | (with_reducible refine LeO.ite ?_ ?_)
   | (with_reducible refine LeO.bind ?_ (fun _ => ?_))
   | exact ih0 _ _ _ _ _ _
   | exact ih1 _ _ _ _ _ _ _ _
   | exact ih2 _ _ _ _ _ _ _ _ _
   | exact qw_.mono _ _
   | exact LeO.none _
   | refine LeO.ite ?_ ?_
   | refine LeO.bind ?_ (fun _ => ?_)
theorem qC_.mono : ∀ a0 a1 a2 a3 a4 k, LeO (qC_.f k a0 a1 a2 a3 a4) (qC_.f (k + 1) a0 a1 a2 a3 a4) := by
 intro a0 a1 a2 a3 a4 k
 obtain ⟨ih0, ih1, ih2⟩ := qC_.mono_l k
 unfold qC_.f
 repeat' first
   | (with_reducible exact ih0 _ _ _ _ _ _)
   | (with_reducible exact ih1 _ _ _ _ _ _ _ _)
   | (with_reducible exact ih2 _ _ _ _ _ _ _ _ _)
   | (with_reducible exact qw_.mono _ _)
   | (with_reducible exact LeO.refl _)
   | (with_reducible exact LeO.none _)
   | (with_reducible refine LeO.ite ?_ ?_)
   | (with_reducible refine LeO.bind ?_ (fun _ => ?_))
   | exact ih0 _ _ _ _ _ _
   | exact ih1 _ _ _ _ _ _ _ _
   | exact ih2 _ _ _ _ _ _ _ _ _
   | exact qw_.mono _ _
   | exact LeO.none _
   | refine LeO.ite ?_ ?_
   | refine LeO.bind ?_ (fun _ => ?_)
set_option maxHeartbeats 8000000 in
set_option maxRecDepth 100000 in
theorem qC_.calls (k : Nat) (A0_0 : Option Addr) (c0_0 : Nat) (l0_0 : List (S47)) (a1_0 : Int) (a1_1 : Bool) (a1_2 : Bool) (a1_3 : Int) (r1 : Bool) (r2 : Int) (r3 : Int) (w : World) (hr0_0 : Kd.C k47 w A0_0 l0_0.length l0_0) (hc0_0 : l0_0.length ≤ c0_0) (h : qC_.f k l0_0 a1_0 a1_1 a1_2 a1_3 = some (r1, r2, r3)) :
  Calls Tryd.prog 10 #[.agg #[.slice A0_0 l0_0.length c0_0], .agg #[.int .i64 a1_0, .bool a1_1, .bool a1_2, .int .i64 a1_3]] w fun e w' => e = .returned (.tuple #[.bool r1, .agg #[.int .i64 r2, .int .i64 r3]]) ∧ Below w.heap.size w w' := by
 have hu24 := Tryd.underlying24
 have hu26 := Tryd.underlying26
 have hu28 := Tryd.underlying28
 have hu47 := Tryd.underlying47
 have HR0_0 := Aside0.mk hr0_0
 have HC0_0 := Aside0.mk hc0_0
 clear hr0_0 hc0_0
 have HB := Aside0.mk (Below.refl w.heap.size w)
 have H : ((qw_.f k l0_0).bind fun bt178 => (if (bt178.1 == 0 && (bt178.2 == 0)) = true then (if a1_0 < (-1000000000) then (qC_.j0 k true l0_0 a1_0 a1_1 a1_2 a1_3) else (if a1_0 > 1000000000 then (qC_.j0 k true l0_0 a1_0 a1_1 a1_2 a1_3) else (if a1_3 < 0 then (qC_.j0 k true l0_0 a1_0 a1_1 a1_2 a1_3) else (qC_.j0 k (decide (a1_3 ≥ 256)) l0_0 a1_0 a1_1 a1_2 a1_3)))) else (some (false, bt178.1, bt178.2)))) = some (r1, r2, r3) := h
 clear h
 replace H := Option.bind_eq_some_iff.mp H
 obtain ⟨⟨t178, t179⟩, A30, H⟩ := H
 replace H : (if (t178 == 0 && (t179 == 0)) = true then (if a1_0 < (-1000000000) then (qC_.j0 k true l0_0 a1_0 a1_1 a1_2 a1_3) else (if a1_0 > 1000000000 then (qC_.j0 k true l0_0 a1_0 a1_1 a1_2 a1_3) else (if a1_3 < 0 then (qC_.j0 k true l0_0 a1_0 a1_1 a1_2 a1_3) else (qC_.j0 k (decide (a1_3 ≥ 256)) l0_0 a1_0 a1_1 a1_2 a1_3)))) else (some (false, t178, t179))) = some (r1, r2, r3) := H
 have A3 := Aside0.mk A30
 clear A30
 go_enter Tryd.func10, Tryd.ntmps10
 go_upto_if 15 with (first | ((with_reducible refine gate_dst (N := 2) rfl ?_); refine qE_ ?hg (N := 2) ?hd (cs := #[.slice A0_0 l0_0.length c0_0]) (t := 24) ?hr ?_; (case hd => rfl); (case hg => rfl); (case hr => first | (go_simp; done) | (go_simp; rfl)); intro gb175 hg w6 hbox hb; have BK175 := Aside0.mk (hbox); have GW175 := Aside0.mk ((by rw [hg]; exact (qv_ (by repeat (first | (with_reducible first | exact HB.out | apply qh_ | apply qc_ | apply qf_) | exact HB.out))) : w.heap.size ≤ gb175)); have GE175 := Aside0.mk ((by rw [hg]; exact (qv_ (by repeat (first | (with_reducible first | exact HB.out | apply qh_ | apply qc_ | apply qf_) | exact HB.out))) : w.heap.size ≤ gb175)); replace HB := Aside0.mk (qq_ (by repeat (first | (with_reducible first | exact HB.out | apply qh_ | apply qc_ | apply qf_) | exact HB.out)) hb); clear hb hbox hg) | ((with_reducible refine gate_dst (N := 3) rfl ?_); refine qE_ ?hg (N := 3) ?hd (cs := #[.int .i64 a1_0, .bool a1_1, .bool a1_2, .int .i64 a1_3]) (t := 26) ?hr ?_; (case hd => rfl); (case hg => rfl); (case hr => first | (go_simp; done) | (go_simp; rfl)); intro gb176 hg w7 hbox hb; have BK176 := Aside0.mk (hbox); have GW176 := Aside0.mk ((by rw [hg]; exact (qv_ (by repeat (first | (with_reducible first | exact HB.out | apply qh_ | apply qc_ | apply qf_ | refine qk_ ?_ (by assumption)) | exact HB.out))) : w.heap.size ≤ gb176)); have GE176 := Aside0.mk ((by rw [hg]; exact (qv_ (by repeat (first | (with_reducible first | exact HB.out | apply qh_ | apply qc_ | apply qf_ | refine qk_ ?_ (by assumption)) | exact HB.out))) : w.heap.size ≤ gb176)); replace HB := Aside0.mk (qq_ (by repeat (first | (with_reducible first | exact HB.out | apply qh_ | apply qc_ | apply qf_ | refine qk_ ?_ (by assumption)) | exact HB.out)) hb); have NB175_176 := Aside0.mk ((by rw [hg]; exact Nat.ne_of_lt (qB_ (g := gb175) (o := .cells #[.slice A0_0 l0_0.length c0_0] 24 (0, 0)) (by (with_reducible repeat first | apply qa_ | apply qb_ | apply blk_alloc); exact BK175.out)) : gb175 ≠ gb176)); have NB176_175 := Aside0.mk ((by rw [hg]; exact Nat.ne_of_gt (qB_ (g := gb175) (o := .cells #[.slice A0_0 l0_0.length c0_0] 24 (0, 0)) (by (with_reducible repeat first | apply qa_ | apply qb_ | apply blk_alloc); exact BK175.out)) : gb176 ≠ gb175)); replace BK175 := Aside0.mk (ql_ BK175 (by (with_reducible repeat first | apply qa_ | apply qb_ | apply blk_alloc); exact BK175.out) hb); clear hb hbox hg) | ((with_reducible refine gate_dst (N := 5) rfl ?_); refine qE_ ?hg (N := 5) ?hd (cs := #[.int .i64 0, .int .i64 0]) (t := 28) ?hr ?_; (case hd => rfl); (case hg => rfl); (case hr => first | (go_simp; done) | (go_simp; rfl)); intro gb177 hg w8 hbox hb; have BK177 := Aside0.mk (hbox); have GW177 := Aside0.mk ((by rw [hg]; exact (qv_ (by repeat (first | (with_reducible first | exact HB.out | apply qh_ | apply qc_ | apply qf_ | refine qk_ ?_ (by assumption)) | exact HB.out))) : w.heap.size ≤ gb177)); have GE177 := Aside0.mk ((by rw [hg]; exact (qv_ (by repeat (first | (with_reducible first | exact HB.out | apply qh_ | apply qc_ | apply qf_ | refine qk_ ?_ (by assumption)) | exact HB.out))) : w.heap.size ≤ gb177)); replace HB := Aside0.mk (qq_ (by repeat (first | (with_reducible first | exact HB.out | apply qh_ | apply qc_ | apply qf_ | refine qk_ ?_ (by assumption)) | exact HB.out)) hb); have NB175_177 := Aside0.mk ((by rw [hg]; exact Nat.ne_of_lt (qB_ (g := gb175) (o := .cells #[.slice A0_0 l0_0.length c0_0] 24 (0, 0)) (by (with_reducible repeat first | apply qa_ | apply qb_ | apply blk_alloc); exact BK175.out)) : gb175 ≠ gb177)); have NB177_175 := Aside0.mk ((by rw [hg]; exact Nat.ne_of_gt (qB_ (g := gb175) (o := .cells #[.slice A0_0 l0_0.length c0_0] 24 (0, 0)) (by (with_reducible repeat first | apply qa_ | apply qb_ | apply blk_alloc); exact BK175.out)) : gb177 ≠ gb175)); replace BK175 := Aside0.mk (ql_ BK175 (by (with_reducible repeat first | apply qa_ | apply qb_ | apply blk_alloc); exact BK175.out) hb); have NB176_177 := Aside0.mk ((by rw [hg]; exact Nat.ne_of_lt (qB_ (g := gb176) (o := .cells #[.int .i64 a1_0, .bool a1_1, .bool a1_2, .int .i64 a1_3] 26 (0, 0)) (by (with_reducible repeat first | apply qa_ | apply qb_ | apply blk_alloc); exact BK176.out)) : gb176 ≠ gb177)); have NB177_176 := Aside0.mk ((by rw [hg]; exact Nat.ne_of_gt (qB_ (g := gb176) (o := .cells #[.int .i64 a1_0, .bool a1_1, .bool a1_2, .int .i64 a1_3] 26 (0, 0)) (by (with_reducible repeat first | apply qa_ | apply qb_ | apply blk_alloc); exact BK176.out)) : gb177 ≠ gb176)); replace BK176 := Aside0.mk (ql_ BK176 (by (with_reducible repeat first | apply qa_ | apply qb_ | apply blk_alloc); exact BK176.out) hb); clear hb hbox hg; have hnb9 := NB175_176.out; have hnc9 := NB176_175.out; have hnb10 := NB175_177.out; have hnc10 := NB177_175.out; have hcz11_0 := qg_ BK175 0 (.slice A0_0 l0_0.length c0_0) rfl; have hfz11_0 := qd_ BK175 0) | ((with_reducible refine qs_ (f := 13) rfl ?_); refine goesL_ (some 12) rfl rfl Tryd.func13 (by kernel_rfl) rfl #[.agg #[.slice A0_0 l0_0.length c0_0]] rfl (by (try simp only [List.map_toArray]); first | done | rfl) ?_; (with_reducible refine (qw_.calls k _ _ l0_0 t178 t179 _ ?side1 ?side2 A3.out).mono ?_); (case side1 => repeat (first | exact (Kd.C_below HR0_0.out HB.out) | (with_reducible refine Kd.C_alloc ?_ _) | (with_reducible refine Kd.C_drewN ?_ _) | (with_reducible refine Kd.C_drew ?_))); (case side2 => exact HC0_0.out); rintro e w12 ⟨rfl, hb⟩; refine ⟨_, rfl, ?_⟩; replace BK175 := Aside0.mk (ql_ BK175 (by (with_reducible repeat first | apply qa_ | apply qb_ | apply blk_alloc); exact BK175.out) hb); replace BK176 := Aside0.mk (ql_ BK176 (by (with_reducible repeat first | apply qa_ | apply qb_ | apply blk_alloc); exact BK176.out) hb); replace BK177 := Aside0.mk (ql_ BK177 (by (with_reducible repeat first | apply qa_ | apply qb_ | apply blk_alloc); exact BK177.out) hb); replace HB := Aside0.mk (qq_ (by repeat (first | (with_reducible first | exact HB.out | apply qh_ | apply qc_ | apply qf_ | refine qk_ ?_ (by assumption)) | exact HB.out)) hb); (try clear hb)) | ((with_reducible refine gate_dst (N := 6) rfl ?_); refine qE_ ?hg (N := 6) ?hd (cs := #[.int .i64 0, .int .i64 0]) (t := 28) ?hr ?_; (case hd => rfl); (case hg => rfl); (case hr => first | (go_simp; done) | (go_simp; rfl)); intro gb180 hg w13 hbox hb; have BK180 := Aside0.mk (hbox); have GW180 := Aside0.mk ((by rw [hg]; exact (qv_ (by repeat (first | (with_reducible first | exact HB.out | apply qh_ | apply qc_ | apply qf_ | refine qk_ ?_ (by assumption)) | exact HB.out))) : w.heap.size ≤ gb180)); have GE180 := Aside0.mk ((by rw [hg]; exact (qv_ (by repeat (first | (with_reducible first | exact HB.out | apply qh_ | apply qc_ | apply qf_ | refine qk_ ?_ (by assumption)) | exact HB.out))) : w.heap.size ≤ gb180)); replace HB := Aside0.mk (qq_ (by repeat (first | (with_reducible first | exact HB.out | apply qh_ | apply qc_ | apply qf_ | refine qk_ ?_ (by assumption)) | exact HB.out)) hb); have NB175_180 := Aside0.mk ((by rw [hg]; exact Nat.ne_of_lt (qB_ (g := gb175) (o := .cells #[.slice A0_0 l0_0.length c0_0] 24 (0, 0)) (by (with_reducible repeat first | apply qa_ | apply qb_ | apply blk_alloc); exact BK175.out)) : gb175 ≠ gb180)); have NB180_175 := Aside0.mk ((by rw [hg]; exact Nat.ne_of_gt (qB_ (g := gb175) (o := .cells #[.slice A0_0 l0_0.length c0_0] 24 (0, 0)) (by (with_reducible repeat first | apply qa_ | apply qb_ | apply blk_alloc); exact BK175.out)) : gb180 ≠ gb175)); replace BK175 := Aside0.mk (ql_ BK175 (by (with_reducible repeat first | apply qa_ | apply qb_ | apply blk_alloc); exact BK175.out) hb); have NB176_180 := Aside0.mk ((by rw [hg]; exact Nat.ne_of_lt (qB_ (g := gb176) (o := .cells #[.int .i64 a1_0, .bool a1_1, .bool a1_2, .int .i64 a1_3] 26 (0, 0)) (by (with_reducible repeat first | apply qa_ | apply qb_ | apply blk_alloc); exact BK176.out)) : gb176 ≠ gb180)); have NB180_176 := Aside0.mk ((by rw [hg]; exact Nat.ne_of_gt (qB_ (g := gb176) (o := .cells #[.int .i64 a1_0, .bool a1_1, .bool a1_2, .int .i64 a1_3] 26 (0, 0)) (by (with_reducible repeat first | apply qa_ | apply qb_ | apply blk_alloc); exact BK176.out)) : gb180 ≠ gb176)); replace BK176 := Aside0.mk (ql_ BK176 (by (with_reducible repeat first | apply qa_ | apply qb_ | apply blk_alloc); exact BK176.out) hb); have NB177_180 := Aside0.mk ((by rw [hg]; exact Nat.ne_of_lt (qB_ (g := gb177) (o := .cells #[.int .i64 0, .int .i64 0] 28 (0, 0)) (by (with_reducible repeat first | apply qa_ | apply qb_ | apply blk_alloc); exact BK177.out)) : gb177 ≠ gb180)); have NB180_177 := Aside0.mk ((by rw [hg]; exact Nat.ne_of_gt (qB_ (g := gb177) (o := .cells #[.int .i64 0, .int .i64 0] 28 (0, 0)) (by (with_reducible repeat first | apply qa_ | apply qb_ | apply blk_alloc); exact BK177.out)) : gb180 ≠ gb177)); replace BK177 := Aside0.mk (ql_ BK177 (by (with_reducible repeat first | apply qa_ | apply qb_ | apply blk_alloc); exact BK177.out) hb); clear hb hbox hg; have hnb14 := NB180_175.out; have hnc14 := NB175_180.out; have hnb15 := NB180_176.out; have hnc15 := NB176_180.out; have hnb16 := NB180_177.out; have hnc16 := NB177_180.out; have hcz17_0 := qg_ BK180 0 (.int .i64 0) rfl; have hcz17_1 := qg_ BK180 1 (.int .i64 0) rfl; have hfz17_0 := qd_ BK180 0; have hfz17_1 := qd_ BK180 1))
 by_cases c4 : (t178 == 0 && (t179 == 0)) = true
 ·rw [if_pos c4] at H
  have c4b0 : (t178 == 0 && (t179 == 0)) = true := c4
  have c4b1 : (!(t178 == 0) || (!(t179 == 0))) = false := by have h_ := congrArg not c4; simpa [Bool.not_and] using h_
  (first | rw [c4b0] | rw [c4b1] | (simp only [i64_w, i32_w]; rw [c4b0]) | skip)
  clear c4
  have HC5 := Aside0.mk H
  clear H
  go_upto_region 4 with (fail)
  (try simp only [Act.put, List.setIfInBounds_toArray, List.set_cons_zero, List.set_cons_succ])
  go_cut [34] (fun v34 wc => ∃ (kq : Nat) (x34_4 : Bool), v34 = .bool x34_4 ∧ Aside0 (qC_.j0 kq x34_4 l0_0 a1_0 a1_1 a1_2 a1_3 = some (r1, r2, r3)) ∧ Aside0 (kq ≤ k) ∧ Aside0 (wc.heap[gb175]? = some (.cells #[(.slice A0_0 l0_0.length c0_0)] 24 (0, 0))) ∧ Aside0 (wc.heap[gb176]? = some (.cells #[.int .i64 a1_0, .bool a1_1, .bool a1_2, .int .i64 a1_3] 26 (0, 0))) ∧ Aside0 (wc.heap[gb177]? = some (.cells #[.int .i64 0, .int .i64 0] 28 (0, 0))) ∧ Aside0 (wc.heap[gb180]? = some (.cells #[.int .i64 t178, .int .i64 t179] 28 (0, 0))) ∧ Aside0 (Below w.heap.size w wc))
  case first =>
   have H := HC5.out
   clear HC5
   by_cases c18 : a1_0 < (-1000000000)
   ·rw [if_pos c18] at H
    have c18b0 : decide (a1_0 < (-1000000000)) = true := decide_eq_true c18
    clear c18
    (first | rw [c18b0] | (simp only [i64_w, i32_w]; rw [c18b0]) | skip)
    have H' := Aside0.mk H
    clear H
    have hcz22_0 := qg_ BK176 0 (.int .i64 a1_0) rfl
    have hcz22_1 := qg_ BK176 1 (.bool a1_1) rfl
    have hcz22_2 := qg_ BK176 2 (.bool a1_2) rfl
    have hcz22_3 := qg_ BK176 3 (.int .i64 a1_3) rfl
    have hfz22_0 := qd_ BK176 0
    have hfz22_1 := qd_ BK176 1
    have hfz22_2 := qd_ BK176 2
    have hfz22_3 := qd_ BK176 3
    go_wp2
    go_meet
    case rel => exact ⟨_, (true), (by first | rfl | (simp [*]; done)), H', ⟨by first | omega | exact Nat.le_refl _⟩, ⟨by (with_reducible repeat first | apply qa_ | apply qb_ | apply blk_alloc); refine qn_ ?_ NB175_180.out _; (with_reducible repeat first | apply qa_ | apply qb_ | apply blk_alloc); refine qn_ ?_ NB175_180.out _; (with_reducible repeat first | apply qa_ | apply qb_ | apply blk_alloc); exact BK175.out⟩, ⟨by (with_reducible repeat first | apply qa_ | apply qb_ | apply blk_alloc); refine qn_ ?_ NB176_180.out _; (with_reducible repeat first | apply qa_ | apply qb_ | apply blk_alloc); refine qn_ ?_ NB176_180.out _; (with_reducible repeat first | apply qa_ | apply qb_ | apply blk_alloc); exact BK176.out⟩, ⟨by (with_reducible repeat first | apply qa_ | apply qb_ | apply blk_alloc); refine qn_ ?_ NB177_180.out _; (with_reducible repeat first | apply qa_ | apply qb_ | apply blk_alloc); refine qn_ ?_ NB177_180.out _; (with_reducible repeat first | apply qa_ | apply qb_ | apply blk_alloc); exact BK177.out⟩, ⟨by (with_reducible repeat first | apply qa_ | apply qb_ | apply blk_alloc); refine qA_ (cs := #[.int .i64 t178, .int .i64 0]) ?_ 1 _ rfl; (with_reducible repeat first | apply qa_ | apply qb_ | apply blk_alloc); refine qA_ (cs := #[.int .i64 0, .int .i64 0]) ?_ 0 _ rfl; (with_reducible repeat first | apply qa_ | apply qb_ | apply blk_alloc); exact BK180.out⟩, ⟨by repeat (first | (with_reducible first | exact HB.out | apply qh_ | apply qc_ | apply qf_ | refine qk_ ?_ (by assumption)) | exact HB.out)⟩⟩
   ·rw [if_neg c18] at H
    have c18b0 : decide (a1_0 < (-1000000000)) = false := decide_eq_false c18
    clear c18
    (first | rw [c18b0] | (simp only [i64_w, i32_w]; rw [c18b0]) | skip)
    by_cases c23 : a1_0 > 1000000000
    ·rw [if_pos c23] at H
     have c23b0 : decide (1000000000 < a1_0) = true := decide_eq_true c23
     clear c23
     have H' := Aside0.mk H
     clear H
     have hcz27_0 := qg_ BK176 0 (.int .i64 a1_0) rfl
     have hcz27_1 := qg_ BK176 1 (.bool a1_1) rfl
     have hcz27_2 := qg_ BK176 2 (.bool a1_2) rfl
     have hcz27_3 := qg_ BK176 3 (.int .i64 a1_3) rfl
     have hfz27_0 := qd_ BK176 0
     have hfz27_1 := qd_ BK176 1
     have hfz27_2 := qd_ BK176 2
     have hfz27_3 := qd_ BK176 3
     go_wp2
     go_meet
     case rel => exact ⟨_, (true), (by first | rfl | (simp [*]; done)), H', ⟨by first | omega | exact Nat.le_refl _⟩, ⟨by (with_reducible repeat first | apply qa_ | apply qb_ | apply blk_alloc); refine qn_ ?_ NB175_180.out _; (with_reducible repeat first | apply qa_ | apply qb_ | apply blk_alloc); refine qn_ ?_ NB175_180.out _; (with_reducible repeat first | apply qa_ | apply qb_ | apply blk_alloc); exact BK175.out⟩, ⟨by (with_reducible repeat first | apply qa_ | apply qb_ | apply blk_alloc); refine qn_ ?_ NB176_180.out _; (with_reducible repeat first | apply qa_ | apply qb_ | apply blk_alloc); refine qn_ ?_ NB176_180.out _; (with_reducible repeat first | apply qa_ | apply qb_ | apply blk_alloc); exact BK176.out⟩, ⟨by (with_reducible repeat first | apply qa_ | apply qb_ | apply blk_alloc); refine qn_ ?_ NB177_180.out _; (with_reducible repeat first | apply qa_ | apply qb_ | apply blk_alloc); refine qn_ ?_ NB177_180.out _; (with_reducible repeat first | apply qa_ | apply qb_ | apply blk_alloc); exact BK177.out⟩, ⟨by (with_reducible repeat first | apply qa_ | apply qb_ | apply blk_alloc); refine qA_ (cs := #[.int .i64 t178, .int .i64 0]) ?_ 1 _ rfl; (with_reducible repeat first | apply qa_ | apply qb_ | apply blk_alloc); refine qA_ (cs := #[.int .i64 0, .int .i64 0]) ?_ 0 _ rfl; (with_reducible repeat first | apply qa_ | apply qb_ | apply blk_alloc); exact BK180.out⟩, ⟨by repeat (first | (with_reducible first | exact HB.out | apply qh_ | apply qc_ | apply qf_ | refine qk_ ?_ (by assumption)) | exact HB.out)⟩⟩
    ·rw [if_neg c23] at H
     have c23b0 : decide (1000000000 < a1_0) = false := decide_eq_false c23
     clear c23
     by_cases c28 : a1_3 < 0
     ·rw [if_pos c28] at H
      have c28b0 : decide (a1_3 < 0) = true := decide_eq_true c28
      clear c28
      have H' := Aside0.mk H
      clear H
      have hcz32_0 := qg_ BK176 0 (.int .i64 a1_0) rfl
      have hcz32_1 := qg_ BK176 1 (.bool a1_1) rfl
      have hcz32_2 := qg_ BK176 2 (.bool a1_2) rfl
      have hcz32_3 := qg_ BK176 3 (.int .i64 a1_3) rfl
      have hfz32_0 := qd_ BK176 0
      have hfz32_1 := qd_ BK176 1
      have hfz32_2 := qd_ BK176 2
      have hfz32_3 := qd_ BK176 3
      go_wp2
      go_meet
      case rel => exact ⟨_, (true), (by first | rfl | (simp [*]; done)), H', ⟨by first | omega | exact Nat.le_refl _⟩, ⟨by (with_reducible repeat first | apply qa_ | apply qb_ | apply blk_alloc); refine qn_ ?_ NB175_180.out _; (with_reducible repeat first | apply qa_ | apply qb_ | apply blk_alloc); refine qn_ ?_ NB175_180.out _; (with_reducible repeat first | apply qa_ | apply qb_ | apply blk_alloc); exact BK175.out⟩, ⟨by (with_reducible repeat first | apply qa_ | apply qb_ | apply blk_alloc); refine qn_ ?_ NB176_180.out _; (with_reducible repeat first | apply qa_ | apply qb_ | apply blk_alloc); refine qn_ ?_ NB176_180.out _; (with_reducible repeat first | apply qa_ | apply qb_ | apply blk_alloc); exact BK176.out⟩, ⟨by (with_reducible repeat first | apply qa_ | apply qb_ | apply blk_alloc); refine qn_ ?_ NB177_180.out _; (with_reducible repeat first | apply qa_ | apply qb_ | apply blk_alloc); refine qn_ ?_ NB177_180.out _; (with_reducible repeat first | apply qa_ | apply qb_ | apply blk_alloc); exact BK177.out⟩, ⟨by (with_reducible repeat first | apply qa_ | apply qb_ | apply blk_alloc); refine qA_ (cs := #[.int .i64 t178, .int .i64 0]) ?_ 1 _ rfl; (with_reducible repeat first | apply qa_ | apply qb_ | apply blk_alloc); refine qA_ (cs := #[.int .i64 0, .int .i64 0]) ?_ 0 _ rfl; (with_reducible repeat first | apply qa_ | apply qb_ | apply blk_alloc); exact BK180.out⟩, ⟨by repeat (first | (with_reducible first | exact HB.out | apply qh_ | apply qc_ | apply qf_ | refine qk_ ?_ (by assumption)) | exact HB.out)⟩⟩
     ·rw [if_neg c28] at H
      have c28b0 : decide (a1_3 < 0) = false := decide_eq_false c28
      clear c28
      have H' := Aside0.mk H
      clear H
      have hcz36_0 := qg_ BK176 0 (.int .i64 a1_0) rfl
      have hcz36_1 := qg_ BK176 1 (.bool a1_1) rfl
      have hcz36_2 := qg_ BK176 2 (.bool a1_2) rfl
      have hcz36_3 := qg_ BK176 3 (.int .i64 a1_3) rfl
      have hfz36_0 := qd_ BK176 0
      have hfz36_1 := qd_ BK176 1
      have hfz36_2 := qd_ BK176 2
      have hfz36_3 := qd_ BK176 3
      go_wp2
      go_meet
      case rel => exact ⟨_, (decide (a1_3 ≥ 256)), (by first | rfl | (simp [*]; done)), H', ⟨by first | omega | exact Nat.le_refl _⟩, ⟨by (with_reducible repeat first | apply qa_ | apply qb_ | apply blk_alloc); refine qn_ ?_ NB175_180.out _; (with_reducible repeat first | apply qa_ | apply qb_ | apply blk_alloc); refine qn_ ?_ NB175_180.out _; (with_reducible repeat first | apply qa_ | apply qb_ | apply blk_alloc); exact BK175.out⟩, ⟨by (with_reducible repeat first | apply qa_ | apply qb_ | apply blk_alloc); refine qn_ ?_ NB176_180.out _; (with_reducible repeat first | apply qa_ | apply qb_ | apply blk_alloc); refine qn_ ?_ NB176_180.out _; (with_reducible repeat first | apply qa_ | apply qb_ | apply blk_alloc); exact BK176.out⟩, ⟨by (with_reducible repeat first | apply qa_ | apply qb_ | apply blk_alloc); refine qn_ ?_ NB177_180.out _; (with_reducible repeat first | apply qa_ | apply qb_ | apply blk_alloc); refine qn_ ?_ NB177_180.out _; (with_reducible repeat first | apply qa_ | apply qb_ | apply blk_alloc); exact BK177.out⟩, ⟨by (with_reducible repeat first | apply qa_ | apply qb_ | apply blk_alloc); refine qA_ (cs := #[.int .i64 t178, .int .i64 0]) ?_ 1 _ rfl; (with_reducible repeat first | apply qa_ | apply qb_ | apply blk_alloc); refine qA_ (cs := #[.int .i64 0, .int .i64 0]) ?_ 0 _ rfl; (with_reducible repeat first | apply qa_ | apply qb_ | apply blk_alloc); exact BK180.out⟩, ⟨by repeat (first | (with_reducible first | exact HB.out | apply qh_ | apply qc_ | apply qf_ | refine qk_ ?_ (by assumption)) | exact HB.out)⟩⟩
  case rest =>
   clear HC5
   obtain ⟨kq, x34_4, rfl, HA, HJ4, BK175, BK176, BK177, BK180, HB⟩ := hcut
   cases kq with
   | zero => exact absurd HA.out (by simp [qC_.j0])
   | succ kj4 =>
    have H := HA.out
    clear HA
    simp only [qC_.j0] at H
    by_cases c37 : x34_4 = true
    ·subst c37
     have H1 : (some (false, 3, (-2))) = some (r1, r2, r3) := by rw [if_pos rfl] at H; exact H
     clear H
     have H := H1
     clear H1
     simp only [Option.some.injEq, Prod.mk.injEq] at H
     obtain ⟨rfl, rfl, rfl⟩ := H
     have hcz41_0 := qg_ BK177 0 (.int .i64 0) rfl
     have hcz41_1 := qg_ BK177 1 (.int .i64 0) rfl
     have hfz41_0 := qd_ BK177 0
     have hfz41_1 := qd_ BK177 1
     go_wp2
     refine bodyPost_ret (results_tc rfl _ _ gb177 28 #[.int .i64 3, .int .i64 (-2)] (0, 0) _ rfl (by (with_reducible repeat first | apply qa_ | apply qb_ | apply blk_alloc); refine qA_ (cs := #[.int .i64 3, .int .i64 0]) ?_ 1 _ rfl; (with_reducible repeat first | apply qa_ | apply qb_ | apply blk_alloc); refine qA_ (cs := #[.int .i64 0, .int .i64 0]) ?_ 0 _ rfl; (with_reducible repeat first | apply qa_ | apply qb_ | apply blk_alloc); exact BK177.out) Tryd.underlying28 rfl (by kernel_rfl)) rfl ?_
     exact ⟨by first | rfl | (simp [*] <;> rfl), by repeat (first | (with_reducible first | exact HB.out | apply qh_ | apply qc_ | apply qf_ | refine qk_ ?_ (by assumption)) | exact HB.out)⟩
    ·replace c37 := Bool.eq_false_iff.mpr c37
     subst c37
     have H1 : (qC_.l0 kj4 ([] : List Bool) l0_0 (l0_0.length : Int) 0 a1_0 a1_1 a1_2 a1_3) = some (r1, r2, r3) := by rw [if_neg (show ¬ (false = true) by decide)] at H; exact H
     clear H
     have H := H1
     clear H1
     have H' := Aside0.mk H
     clear H
     have hcz45_0 := qg_ BK175 0 (.slice A0_0 l0_0.length c0_0) rfl
     have hfz45_0 := qd_ BK175 0
     go_wp2
     go_loopg [7, 39] kj4 (fun kq v7 v39 w' => ∃ (x7_2 : List Bool) (x39_2 : Int), v39 = .int .i64 x39_2 ∧ Aside0 (qC_.l0 kq x7_2 l0_0 (l0_0.length : Int) x39_2 a1_0 a1_1 a1_2 a1_3 = some (r1, r2, r3)) ∧ Aside0 (kq ≤ kj4) ∧ Aside0 (Kd.R Kd.bool 4 w' w.heap.size (fun _ => True) v7 x7_2) ∧ Aside0 (w'.heap[gb175]? = some (.cells #[(.slice A0_0 l0_0.length c0_0)] 24 (0, 0))) ∧ Aside0 (w'.heap[gb176]? = some (.cells #[.int .i64 a1_0, .bool a1_1, .bool a1_2, .int .i64 a1_3] 26 (0, 0))) ∧ Aside0 (w'.heap[gb177]? = some (.cells #[.int .i64 0, .int .i64 0] 28 (0, 0))) ∧ Aside0 (w'.heap[gb180]? = some (.cells #[.int .i64 t178, .int .i64 t179] 28 (0, 0))) ∧ Aside0 (Below w.heap.size w w'))
     case atStart => exact ⟨(([] : List Bool)), (0), (by first | rfl | (simp [*]; done)), H', ⟨Nat.le_refl _⟩, ⟨by first | exact Kd.R_nil _ _ _ _ _ | exact Kd.N_nil _ _ _ _ _ | exact Kd.V_nil _ _ _ _ _ | exact Kd.Q_nil _ _ _ _ _ | exact Kd.S_nil _ _ _ _ _⟩, ⟨by (with_reducible repeat first | apply qa_ | apply qb_ | apply blk_alloc); exact BK175.out⟩, ⟨by (with_reducible repeat first | apply qa_ | apply qb_ | apply blk_alloc); exact BK176.out⟩, ⟨by (with_reducible repeat first | apply qa_ | apply qb_ | apply blk_alloc); exact BK177.out⟩, ⟨by (with_reducible repeat first | apply qa_ | apply qb_ | apply blk_alloc); exact BK180.out⟩, ⟨by repeat (first | (with_reducible first | exact HB.out | apply qh_ | apply qc_ | apply qf_ | refine qk_ ?_ (by assumption)) | exact HB.out)⟩⟩
     case round =>
      clear H'
      obtain ⟨x7_2, x39_2, rfl, HA, HK2, HO_7, BK175, BK176, BK177, BK180, HB⟩ := hrel
      cases gk with
      | zero => exact absurd HA.out (by simp [qC_.l0])
      | succ k2 =>
       have H := HA.out
       clear HA
       simp only [qC_.l0] at H
       by_cases c46 : x39_2 < (l0_0.length : Int)
       ·rw [if_pos c46] at H
        have c46b0 : decide (x39_2 < (l0_0.length : Int)) = true := decide_eq_true c46
        clear c46
        by_cases c47 : 0 ≤ x39_2
        ·rw [if_pos c47] at H
         have c47b0 : decide (0 ≤ x39_2) = true := decide_eq_true c47
         clear c47
         by_cases c48 : x39_2 < (l0_0.length : Int)
         ·rw [if_pos c48] at H
          have c48b0 : decide (x39_2 < (l0_0.length : Int)) = true := decide_eq_true c48
          clear c48
          have HC49 := Aside0.mk H
          clear H
          have p181 : 0 ≤ (x39_2 : Int) := of_decide_eq_true (by assumption)
          have q181 : x39_2 < (l0_0.length : Int) := of_decide_eq_true (by assumption)
          obtain ⟨ad181, e181, hx181_0, hx181_1, hx181_2, hx181_3⟩ := at_T47 HR0_0.out x39_2 p181 q181
          cases e181
          replace hx181_0 := (HB.out.cell (World.block_lt_of_cell? w _ hx181_0)).trans hx181_0
          replace hx181_1 := (HB.out.cell (World.block_lt_of_cell? w _ hx181_1)).trans hx181_1
          replace hx181_2 := (HB.out.cell (World.block_lt_of_cell? w _ hx181_2)).trans hx181_2
          replace hx181_3 := (HB.out.cell (World.block_lt_of_cell? w _ hx181_3)).trans hx181_3
          replace p181 := eq_true p181
          replace q181 := eq_true q181
          go_upto_block 2 with (first | ((with_reducible refine gate_dst (N := 9) rfl ?_); refine qE_ ?hg (N := 9) ?hd (cs := #[.int .i64 0, .int .i64 0, .int .i64 0, .int .i64 0]) (t := 47) ?hr ?_; (case hd => rfl); (case hg => rfl); (case hr => first | (go_simp; done) | (go_simp; rfl)); intro gb182 hg w50 hbox hb; replace HO_7 := Aside0.mk (Kd.R_below (by (with_reducible repeat first | apply Kd.R_alloc | apply Kd.R_drewN | apply Kd.R_drew); exact HO_7.out) hb); have BK182 := Aside0.mk (hbox); have GW182 := Aside0.mk ((by rw [hg]; exact (qv_ (by repeat (first | (with_reducible first | exact HB.out | apply qh_ | apply qc_ | apply qf_ | refine qk_ ?_ (by assumption)) | exact HB.out))) : w.heap.size ≤ gb182)); have GE182 := Aside0.mk ((by rw [hg]; exact (qv_ (by repeat (first | (with_reducible first | exact HB.out | apply qh_ | apply qc_ | apply qf_ | refine qk_ ?_ (by assumption)) | exact HB.out))) : w.heap.size ≤ gb182)); replace HB := Aside0.mk (qq_ (by repeat (first | (with_reducible first | exact HB.out | apply qh_ | apply qc_ | apply qf_ | refine qk_ ?_ (by assumption)) | exact HB.out)) hb); have NB175_182 := Aside0.mk ((by rw [hg]; exact Nat.ne_of_lt (qB_ (g := gb175) (o := .cells #[.slice (some ad181) l0_0.length c0_0] 24 (0, 0)) (by (with_reducible repeat first | apply qa_ | apply qb_ | apply blk_alloc); exact BK175.out)) : gb175 ≠ gb182)); have NB182_175 := Aside0.mk ((by rw [hg]; exact Nat.ne_of_gt (qB_ (g := gb175) (o := .cells #[.slice (some ad181) l0_0.length c0_0] 24 (0, 0)) (by (with_reducible repeat first | apply qa_ | apply qb_ | apply blk_alloc); exact BK175.out)) : gb182 ≠ gb175)); replace BK175 := Aside0.mk (ql_ BK175 (by (with_reducible repeat first | apply qa_ | apply qb_ | apply blk_alloc); exact BK175.out) hb); have NB176_182 := Aside0.mk ((by rw [hg]; exact Nat.ne_of_lt (qB_ (g := gb176) (o := .cells #[.int .i64 a1_0, .bool a1_1, .bool a1_2, .int .i64 a1_3] 26 (0, 0)) (by (with_reducible repeat first | apply qa_ | apply qb_ | apply blk_alloc); exact BK176.out)) : gb176 ≠ gb182)); have NB182_176 := Aside0.mk ((by rw [hg]; exact Nat.ne_of_gt (qB_ (g := gb176) (o := .cells #[.int .i64 a1_0, .bool a1_1, .bool a1_2, .int .i64 a1_3] 26 (0, 0)) (by (with_reducible repeat first | apply qa_ | apply qb_ | apply blk_alloc); exact BK176.out)) : gb182 ≠ gb176)); replace BK176 := Aside0.mk (ql_ BK176 (by (with_reducible repeat first | apply qa_ | apply qb_ | apply blk_alloc); exact BK176.out) hb); have NB177_182 := Aside0.mk ((by rw [hg]; exact Nat.ne_of_lt (qB_ (g := gb177) (o := .cells #[.int .i64 0, .int .i64 0] 28 (0, 0)) (by (with_reducible repeat first | apply qa_ | apply qb_ | apply blk_alloc); exact BK177.out)) : gb177 ≠ gb182)); have NB182_177 := Aside0.mk ((by rw [hg]; exact Nat.ne_of_gt (qB_ (g := gb177) (o := .cells #[.int .i64 0, .int .i64 0] 28 (0, 0)) (by (with_reducible repeat first | apply qa_ | apply qb_ | apply blk_alloc); exact BK177.out)) : gb182 ≠ gb177)); replace BK177 := Aside0.mk (ql_ BK177 (by (with_reducible repeat first | apply qa_ | apply qb_ | apply blk_alloc); exact BK177.out) hb); have NB180_182 := Aside0.mk ((by rw [hg]; exact Nat.ne_of_lt (qB_ (g := gb180) (o := .cells #[.int .i64 t178, .int .i64 t179] 28 (0, 0)) (by (with_reducible repeat first | apply qa_ | apply qb_ | apply blk_alloc); exact BK180.out)) : gb180 ≠ gb182)); have NB182_180 := Aside0.mk ((by rw [hg]; exact Nat.ne_of_gt (qB_ (g := gb180) (o := .cells #[.int .i64 t178, .int .i64 t179] 28 (0, 0)) (by (with_reducible repeat first | apply qa_ | apply qb_ | apply blk_alloc); exact BK180.out)) : gb182 ≠ gb180)); replace BK180 := Aside0.mk (ql_ BK180 (by (with_reducible repeat first | apply qa_ | apply qb_ | apply blk_alloc); exact BK180.out) hb); clear hb hbox hg; have hnb51 := NB182_175.out; have hnc51 := NB175_182.out; have hnb52 := NB182_176.out; have hnc52 := NB176_182.out; have hnb53 := NB182_177.out; have hnc53 := NB177_182.out; have hnb54 := NB182_180.out; have hnc54 := NB180_182.out; have hcz55_0 := qg_ BK182 0 (.int .i64 0) rfl; have hcz55_1 := qg_ BK182 1 (.int .i64 0) rfl; have hcz55_2 := qg_ BK182 2 (.int .i64 0) rfl; have hcz55_3 := qg_ BK182 3 (.int .i64 0) rfl; have hfz55_0 := qd_ BK182 0; have hfz55_1 := qd_ BK182 1; have hfz55_2 := qd_ BK182 2; have hfz55_3 := qd_ BK182 3))
          (try simp only [Act.put, List.setIfInBounds_toArray, List.set_cons_zero, List.set_cons_succ])
          go_cut [10] (fun v10 wc => ∃ (kq : Nat) (x10_48 : Bool), v10 = .bool x10_48 ∧ Aside0 (qC_.j2 kq x7_2 x10_48 l0_0 (l0_0.length : Int) x39_2 a1_0 a1_1 a1_2 a1_3 = some (r1, r2, r3)) ∧ Aside0 (kq ≤ k2) ∧ Aside0 (Kd.R Kd.bool 4 wc w.heap.size (fun _ => True) u7 x7_2) ∧ Aside0 (wc.heap[gb175]? = some (.cells #[(.slice (some ad181) l0_0.length c0_0)] 24 (0, 0))) ∧ Aside0 (wc.heap[gb176]? = some (.cells #[.int .i64 a1_0, .bool a1_1, .bool a1_2, .int .i64 a1_3] 26 (0, 0))) ∧ Aside0 (wc.heap[gb177]? = some (.cells #[.int .i64 0, .int .i64 0] 28 (0, 0))) ∧ Aside0 (wc.heap[gb180]? = some (.cells #[.int .i64 t178, .int .i64 t179] 28 (0, 0))) ∧ Aside0 (wc.heap[gb182]? = some (.cells #[.int .i64 ((qj_ l0_0 x39_2).f0), .int .i64 ((qj_ l0_0 x39_2).f1), .int .i64 ((qj_ l0_0 x39_2).f2), .int .i64 ((qj_ l0_0 x39_2).f3)] 47 (0, 0))) ∧ Aside0 (Below w.heap.size w wc))
          case first =>
           have H := HC49.out
           clear HC49
           by_cases c56 : ((qj_ l0_0 x39_2).f0) = 1
           ·rw [if_pos c56] at H
            have c56b0 : (((qj_ l0_0 x39_2).f0) == 1) = true := beq_iff_eq.mpr c56
            have c56b1 : (((qj_ l0_0 x39_2).f0) != 1) = false := bne_eq_false_iff_eq.mpr c56
            clear c56
            (first | rw [c56b0] | (simp only [i64_w, i32_w]; rw [c56b0]) | skip)
            have H' := Aside0.mk H
            clear H
            have hcz61_0 := qg_ BK176 0 (.int .i64 a1_0) rfl
            have hcz61_1 := qg_ BK176 1 (.bool a1_1) rfl
            have hcz61_2 := qg_ BK176 2 (.bool a1_2) rfl
            have hcz61_3 := qg_ BK176 3 (.int .i64 a1_3) rfl
            have hfz61_0 := qd_ BK176 0
            have hfz61_1 := qd_ BK176 1
            have hfz61_2 := qd_ BK176 2
            have hfz61_3 := qd_ BK176 3
            have hcz65_0 := qg_ BK182 0 (.int .i64 0) rfl
            have hcz65_1 := qg_ BK182 1 (.int .i64 0) rfl
            have hcz65_2 := qg_ BK182 2 (.int .i64 0) rfl
            have hcz65_3 := qg_ BK182 3 (.int .i64 0) rfl
            have hfz65_0 := qd_ BK182 0
            have hfz65_1 := qd_ BK182 1
            have hfz65_2 := qd_ BK182 2
            have hfz65_3 := qd_ BK182 3
            go_wp2
            go_meet
            case rel => exact ⟨_, (decide (a1_0 ≥ ((qj_ l0_0 x39_2).f1))), (by first | rfl | (simp [*]; done)), H', ⟨by have := HJ4.out; have := HK2.out; first | omega | exact Nat.le_refl _⟩, ⟨by (with_reducible repeat first | apply Kd.R_alloc | apply Kd.R_drewN | apply Kd.R_drew); exact Kd.R_mono (Kd.R_far (p := ⟨gb182, 3, none⟩) (Kd.R_far (p := ⟨gb182, 2, none⟩) (Kd.R_far (p := ⟨gb182, 1, none⟩) (Kd.R_far (p := ⟨gb182, 0, none⟩) (Kd.R_types HO_7.out BK182.out (by decide)) (fun _ hk => hk.2) (.int .i64 ((qj_ l0_0 x39_2).f0))) (fun _ hk => hk.2) (.int .i64 ((qj_ l0_0 x39_2).f1))) (fun _ hk => hk.2) (.int .i64 ((qj_ l0_0 x39_2).f2))) (fun _ hk => hk.2) (.int .i64 ((qj_ l0_0 x39_2).f3))) (fun _ hk => trivial)⟩, ⟨by (with_reducible repeat first | apply qa_ | apply qb_ | apply blk_alloc); refine qn_ ?_ NB175_182.out _; (with_reducible repeat first | apply qa_ | apply qb_ | apply blk_alloc); refine qn_ ?_ NB175_182.out _; (with_reducible repeat first | apply qa_ | apply qb_ | apply blk_alloc); refine qn_ ?_ NB175_182.out _; (with_reducible repeat first | apply qa_ | apply qb_ | apply blk_alloc); refine qn_ ?_ NB175_182.out _; (with_reducible repeat first | apply qa_ | apply qb_ | apply blk_alloc); exact BK175.out⟩, ⟨by (with_reducible repeat first | apply qa_ | apply qb_ | apply blk_alloc); refine qn_ ?_ NB176_182.out _; (with_reducible repeat first | apply qa_ | apply qb_ | apply blk_alloc); refine qn_ ?_ NB176_182.out _; (with_reducible repeat first | apply qa_ | apply qb_ | apply blk_alloc); refine qn_ ?_ NB176_182.out _; (with_reducible repeat first | apply qa_ | apply qb_ | apply blk_alloc); refine qn_ ?_ NB176_182.out _; (with_reducible repeat first | apply qa_ | apply qb_ | apply blk_alloc); exact BK176.out⟩, ⟨by (with_reducible repeat first | apply qa_ | apply qb_ | apply blk_alloc); refine qn_ ?_ NB177_182.out _; (with_reducible repeat first | apply qa_ | apply qb_ | apply blk_alloc); refine qn_ ?_ NB177_182.out _; (with_reducible repeat first | apply qa_ | apply qb_ | apply blk_alloc); refine qn_ ?_ NB177_182.out _; (with_reducible repeat first | apply qa_ | apply qb_ | apply blk_alloc); refine qn_ ?_ NB177_182.out _; (with_reducible repeat first | apply qa_ | apply qb_ | apply blk_alloc); exact BK177.out⟩, ⟨by (with_reducible repeat first | apply qa_ | apply qb_ | apply blk_alloc); refine qn_ ?_ NB180_182.out _; (with_reducible repeat first | apply qa_ | apply qb_ | apply blk_alloc); refine qn_ ?_ NB180_182.out _; (with_reducible repeat first | apply qa_ | apply qb_ | apply blk_alloc); refine qn_ ?_ NB180_182.out _; (with_reducible repeat first | apply qa_ | apply qb_ | apply blk_alloc); refine qn_ ?_ NB180_182.out _; (with_reducible repeat first | apply qa_ | apply qb_ | apply blk_alloc); exact BK180.out⟩, ⟨by (with_reducible repeat first | apply qa_ | apply qb_ | apply blk_alloc); refine qA_ (cs := #[.int .i64 ((qj_ l0_0 x39_2).f0), .int .i64 ((qj_ l0_0 x39_2).f1), .int .i64 ((qj_ l0_0 x39_2).f2), .int .i64 0]) ?_ 3 _ rfl; (with_reducible repeat first | apply qa_ | apply qb_ | apply blk_alloc); refine qA_ (cs := #[.int .i64 ((qj_ l0_0 x39_2).f0), .int .i64 ((qj_ l0_0 x39_2).f1), .int .i64 0, .int .i64 0]) ?_ 2 _ rfl; (with_reducible repeat first | apply qa_ | apply qb_ | apply blk_alloc); refine qA_ (cs := #[.int .i64 ((qj_ l0_0 x39_2).f0), .int .i64 0, .int .i64 0, .int .i64 0]) ?_ 1 _ rfl; (with_reducible repeat first | apply qa_ | apply qb_ | apply blk_alloc); refine qA_ (cs := #[.int .i64 0, .int .i64 0, .int .i64 0, .int .i64 0]) ?_ 0 _ rfl; (with_reducible repeat first | apply qa_ | apply qb_ | apply blk_alloc); exact BK182.out⟩, ⟨by repeat (first | (with_reducible first | exact HB.out | apply qh_ | apply qc_ | apply qf_ | refine qk_ ?_ (by assumption)) | exact HB.out)⟩⟩
           ·rw [if_neg c56] at H
            have c56b0 : (((qj_ l0_0 x39_2).f0) == 1) = false := beq_eq_false_iff_ne.mpr c56
            have c56b1 : (((qj_ l0_0 x39_2).f0) != 1) = true := bne_iff_ne.mpr c56
            (first | rw [c56b0] | (simp only [i64_w, i32_w]; rw [c56b0]) | skip)
            by_cases c66 : ((qj_ l0_0 x39_2).f0) = 2
            ·rw [if_pos c66] at H
             have c66b0 : (((qj_ l0_0 x39_2).f0) == 2) = true := beq_iff_eq.mpr c66
             have c66b1 : (((qj_ l0_0 x39_2).f0) != 2) = false := bne_eq_false_iff_eq.mpr c66
             clear c66
             have H' := Aside0.mk H
             clear H
             have hcz71_0 := qg_ BK176 0 (.int .i64 a1_0) rfl
             have hcz71_1 := qg_ BK176 1 (.bool a1_1) rfl
             have hcz71_2 := qg_ BK176 2 (.bool a1_2) rfl
             have hcz71_3 := qg_ BK176 3 (.int .i64 a1_3) rfl
             have hfz71_0 := qd_ BK176 0
             have hfz71_1 := qd_ BK176 1
             have hfz71_2 := qd_ BK176 2
             have hfz71_3 := qd_ BK176 3
             go_wp2
             go_meet
             case rel => exact ⟨_, (a1_1), (by first | rfl | (simp [*]; done)), H', ⟨by have := HJ4.out; have := HK2.out; first | omega | exact Nat.le_refl _⟩, ⟨by (with_reducible repeat first | apply Kd.R_alloc | apply Kd.R_drewN | apply Kd.R_drew); exact Kd.R_mono (Kd.R_far (p := ⟨gb182, 3, none⟩) (Kd.R_far (p := ⟨gb182, 2, none⟩) (Kd.R_far (p := ⟨gb182, 1, none⟩) (Kd.R_far (p := ⟨gb182, 0, none⟩) (Kd.R_types HO_7.out BK182.out (by decide)) (fun _ hk => hk.2) (.int .i64 ((qj_ l0_0 x39_2).f0))) (fun _ hk => hk.2) (.int .i64 ((qj_ l0_0 x39_2).f1))) (fun _ hk => hk.2) (.int .i64 ((qj_ l0_0 x39_2).f2))) (fun _ hk => hk.2) (.int .i64 ((qj_ l0_0 x39_2).f3))) (fun _ hk => trivial)⟩, ⟨by (with_reducible repeat first | apply qa_ | apply qb_ | apply blk_alloc); refine qn_ ?_ NB175_182.out _; (with_reducible repeat first | apply qa_ | apply qb_ | apply blk_alloc); refine qn_ ?_ NB175_182.out _; (with_reducible repeat first | apply qa_ | apply qb_ | apply blk_alloc); refine qn_ ?_ NB175_182.out _; (with_reducible repeat first | apply qa_ | apply qb_ | apply blk_alloc); refine qn_ ?_ NB175_182.out _; (with_reducible repeat first | apply qa_ | apply qb_ | apply blk_alloc); exact BK175.out⟩, ⟨by (with_reducible repeat first | apply qa_ | apply qb_ | apply blk_alloc); refine qn_ ?_ NB176_182.out _; (with_reducible repeat first | apply qa_ | apply qb_ | apply blk_alloc); refine qn_ ?_ NB176_182.out _; (with_reducible repeat first | apply qa_ | apply qb_ | apply blk_alloc); refine qn_ ?_ NB176_182.out _; (with_reducible repeat first | apply qa_ | apply qb_ | apply blk_alloc); refine qn_ ?_ NB176_182.out _; (with_reducible repeat first | apply qa_ | apply qb_ | apply blk_alloc); exact BK176.out⟩, ⟨by (with_reducible repeat first | apply qa_ | apply qb_ | apply blk_alloc); refine qn_ ?_ NB177_182.out _; (with_reducible repeat first | apply qa_ | apply qb_ | apply blk_alloc); refine qn_ ?_ NB177_182.out _; (with_reducible repeat first | apply qa_ | apply qb_ | apply blk_alloc); refine qn_ ?_ NB177_182.out _; (with_reducible repeat first | apply qa_ | apply qb_ | apply blk_alloc); refine qn_ ?_ NB177_182.out _; (with_reducible repeat first | apply qa_ | apply qb_ | apply blk_alloc); exact BK177.out⟩, ⟨by (with_reducible repeat first | apply qa_ | apply qb_ | apply blk_alloc); refine qn_ ?_ NB180_182.out _; (with_reducible repeat first | apply qa_ | apply qb_ | apply blk_alloc); refine qn_ ?_ NB180_182.out _; (with_reducible repeat first | apply qa_ | apply qb_ | apply blk_alloc); refine qn_ ?_ NB180_182.out _; (with_reducible repeat first | apply qa_ | apply qb_ | apply blk_alloc); refine qn_ ?_ NB180_182.out _; (with_reducible repeat first | apply qa_ | apply qb_ | apply blk_alloc); exact BK180.out⟩, ⟨by (with_reducible repeat first | apply qa_ | apply qb_ | apply blk_alloc); refine qA_ (cs := #[.int .i64 ((qj_ l0_0 x39_2).f0), .int .i64 ((qj_ l0_0 x39_2).f1), .int .i64 ((qj_ l0_0 x39_2).f2), .int .i64 0]) ?_ 3 _ rfl; (with_reducible repeat first | apply qa_ | apply qb_ | apply blk_alloc); refine qA_ (cs := #[.int .i64 ((qj_ l0_0 x39_2).f0), .int .i64 ((qj_ l0_0 x39_2).f1), .int .i64 0, .int .i64 0]) ?_ 2 _ rfl; (with_reducible repeat first | apply qa_ | apply qb_ | apply blk_alloc); refine qA_ (cs := #[.int .i64 ((qj_ l0_0 x39_2).f0), .int .i64 0, .int .i64 0, .int .i64 0]) ?_ 1 _ rfl; (with_reducible repeat first | apply qa_ | apply qb_ | apply blk_alloc); refine qA_ (cs := #[.int .i64 0, .int .i64 0, .int .i64 0, .int .i64 0]) ?_ 0 _ rfl; (with_reducible repeat first | apply qa_ | apply qb_ | apply blk_alloc); exact BK182.out⟩, ⟨by repeat (first | (with_reducible first | exact HB.out | apply qh_ | apply qc_ | apply qf_ | refine qk_ ?_ (by assumption)) | exact HB.out)⟩⟩
            ·rw [if_neg c66] at H
             have c66b0 : (((qj_ l0_0 x39_2).f0) == 2) = false := beq_eq_false_iff_ne.mpr c66
             have c66b1 : (((qj_ l0_0 x39_2).f0) != 2) = true := bne_iff_ne.mpr c66
             by_cases c72 : ((qj_ l0_0 x39_2).f0) = 3
             ·rw [if_pos c72] at H
              have c72b0 : (((qj_ l0_0 x39_2).f0) == 3) = true := beq_iff_eq.mpr c72
              have c72b1 : (((qj_ l0_0 x39_2).f0) != 3) = false := bne_eq_false_iff_eq.mpr c72
              clear c72
              have H' := Aside0.mk H
              clear H
              have hcz77_0 := qg_ BK176 0 (.int .i64 a1_0) rfl
              have hcz77_1 := qg_ BK176 1 (.bool a1_1) rfl
              have hcz77_2 := qg_ BK176 2 (.bool a1_2) rfl
              have hcz77_3 := qg_ BK176 3 (.int .i64 a1_3) rfl
              have hfz77_0 := qd_ BK176 0
              have hfz77_1 := qd_ BK176 1
              have hfz77_2 := qd_ BK176 2
              have hfz77_3 := qd_ BK176 3
              go_wp2
              go_meet
              case rel => exact ⟨_, (a1_2), (by first | rfl | (simp [*]; done)), H', ⟨by have := HJ4.out; have := HK2.out; first | omega | exact Nat.le_refl _⟩, ⟨by (with_reducible repeat first | apply Kd.R_alloc | apply Kd.R_drewN | apply Kd.R_drew); exact Kd.R_mono (Kd.R_far (p := ⟨gb182, 3, none⟩) (Kd.R_far (p := ⟨gb182, 2, none⟩) (Kd.R_far (p := ⟨gb182, 1, none⟩) (Kd.R_far (p := ⟨gb182, 0, none⟩) (Kd.R_types HO_7.out BK182.out (by decide)) (fun _ hk => hk.2) (.int .i64 ((qj_ l0_0 x39_2).f0))) (fun _ hk => hk.2) (.int .i64 ((qj_ l0_0 x39_2).f1))) (fun _ hk => hk.2) (.int .i64 ((qj_ l0_0 x39_2).f2))) (fun _ hk => hk.2) (.int .i64 ((qj_ l0_0 x39_2).f3))) (fun _ hk => trivial)⟩, ⟨by (with_reducible repeat first | apply qa_ | apply qb_ | apply blk_alloc); refine qn_ ?_ NB175_182.out _; (with_reducible repeat first | apply qa_ | apply qb_ | apply blk_alloc); refine qn_ ?_ NB175_182.out _; (with_reducible repeat first | apply qa_ | apply qb_ | apply blk_alloc); refine qn_ ?_ NB175_182.out _; (with_reducible repeat first | apply qa_ | apply qb_ | apply blk_alloc); refine qn_ ?_ NB175_182.out _; (with_reducible repeat first | apply qa_ | apply qb_ | apply blk_alloc); exact BK175.out⟩, ⟨by (with_reducible repeat first | apply qa_ | apply qb_ | apply blk_alloc); refine qn_ ?_ NB176_182.out _; (with_reducible repeat first | apply qa_ | apply qb_ | apply blk_alloc); refine qn_ ?_ NB176_182.out _; (with_reducible repeat first | apply qa_ | apply qb_ | apply blk_alloc); refine qn_ ?_ NB176_182.out _; (with_reducible repeat first | apply qa_ | apply qb_ | apply blk_alloc); refine qn_ ?_ NB176_182.out _; (with_reducible repeat first | apply qa_ | apply qb_ | apply blk_alloc); exact BK176.out⟩, ⟨by (with_reducible repeat first | apply qa_ | apply qb_ | apply blk_alloc); refine qn_ ?_ NB177_182.out _; (with_reducible repeat first | apply qa_ | apply qb_ | apply blk_alloc); refine qn_ ?_ NB177_182.out _; (with_reducible repeat first | apply qa_ | apply qb_ | apply blk_alloc); refine qn_ ?_ NB177_182.out _; (with_reducible repeat first | apply qa_ | apply qb_ | apply blk_alloc); refine qn_ ?_ NB177_182.out _; (with_reducible repeat first | apply qa_ | apply qb_ | apply blk_alloc); exact BK177.out⟩, ⟨by (with_reducible repeat first | apply qa_ | apply qb_ | apply blk_alloc); refine qn_ ?_ NB180_182.out _; (with_reducible repeat first | apply qa_ | apply qb_ | apply blk_alloc); refine qn_ ?_ NB180_182.out _; (with_reducible repeat first | apply qa_ | apply qb_ | apply blk_alloc); refine qn_ ?_ NB180_182.out _; (with_reducible repeat first | apply qa_ | apply qb_ | apply blk_alloc); refine qn_ ?_ NB180_182.out _; (with_reducible repeat first | apply qa_ | apply qb_ | apply blk_alloc); exact BK180.out⟩, ⟨by (with_reducible repeat first | apply qa_ | apply qb_ | apply blk_alloc); refine qA_ (cs := #[.int .i64 ((qj_ l0_0 x39_2).f0), .int .i64 ((qj_ l0_0 x39_2).f1), .int .i64 ((qj_ l0_0 x39_2).f2), .int .i64 0]) ?_ 3 _ rfl; (with_reducible repeat first | apply qa_ | apply qb_ | apply blk_alloc); refine qA_ (cs := #[.int .i64 ((qj_ l0_0 x39_2).f0), .int .i64 ((qj_ l0_0 x39_2).f1), .int .i64 0, .int .i64 0]) ?_ 2 _ rfl; (with_reducible repeat first | apply qa_ | apply qb_ | apply blk_alloc); refine qA_ (cs := #[.int .i64 ((qj_ l0_0 x39_2).f0), .int .i64 0, .int .i64 0, .int .i64 0]) ?_ 1 _ rfl; (with_reducible repeat first | apply qa_ | apply qb_ | apply blk_alloc); refine qA_ (cs := #[.int .i64 0, .int .i64 0, .int .i64 0, .int .i64 0]) ?_ 0 _ rfl; (with_reducible repeat first | apply qa_ | apply qb_ | apply blk_alloc); exact BK182.out⟩, ⟨by repeat (first | (with_reducible first | exact HB.out | apply qh_ | apply qc_ | apply qf_ | refine qk_ ?_ (by assumption)) | exact HB.out)⟩⟩
             ·rw [if_neg c72] at H
              have c72b0 : (((qj_ l0_0 x39_2).f0) == 3) = false := beq_eq_false_iff_ne.mpr c72
              have c72b1 : (((qj_ l0_0 x39_2).f0) != 3) = true := bne_iff_ne.mpr c72
              by_cases c78 : ((qj_ l0_0 x39_2).f0) = 4
              ·rw [if_pos c78] at H
               have c78b0 : (((qj_ l0_0 x39_2).f0) == 4) = true := beq_iff_eq.mpr c78
               have c78b1 : (((qj_ l0_0 x39_2).f0) != 4) = false := bne_eq_false_iff_eq.mpr c78
               clear c78
               by_cases c79 : 0 ≤ ((qj_ l0_0 x39_2).f1)
               ·rw [if_pos c79] at H
                have c79b0 := eq_true c79
                have c79b1 : decide (0 ≤ ((qj_ l0_0 x39_2).f1)) = true := decide_eq_true c79
                clear c79
                obtain ⟨ji80, hji80⟩ : ∃ j_ : Int, (shr .i64 a1_3 ((qj_ l0_0 x39_2).f1)) = j_ := ⟨_, rfl⟩
                replace H : (qC_.j2 k2 x7_2 ((Go.bits .and .i64 (ji80) 1) == 1) l0_0 (l0_0.length : Int) x39_2 a1_0 a1_1 a1_2 a1_3) = some (r1, r2, r3) := by first | (rw [hji80] at H; exact H) | (simp only [hji80] at H ⊢; exact H)
                have hji80_ : (a1_3 / 2 ^ min ((qj_ l0_0 x39_2).f1).toNat 64) = ji80 := hji80
                have hji80z : ((qj_ l0_0 x39_2).f1) ≤ 64 → (a1_3 / 2 ^ ((qj_ l0_0 x39_2).f1).toNat) = ji80 := shr_small hji80
                have H' := Aside0.mk H
                clear H
                have hcz85_0 := qg_ BK176 0 (.int .i64 a1_0) rfl
                have hcz85_1 := qg_ BK176 1 (.bool a1_1) rfl
                have hcz85_2 := qg_ BK176 2 (.bool a1_2) rfl
                have hcz85_3 := qg_ BK176 3 (.int .i64 a1_3) rfl
                have hfz85_0 := qd_ BK176 0
                have hfz85_1 := qd_ BK176 1
                have hfz85_2 := qd_ BK176 2
                have hfz85_3 := qd_ BK176 3
                have hcz89_0 := qg_ BK182 0 (.int .i64 0) rfl
                have hcz89_1 := qg_ BK182 1 (.int .i64 0) rfl
                have hcz89_2 := qg_ BK182 2 (.int .i64 0) rfl
                have hcz89_3 := qg_ BK182 3 (.int .i64 0) rfl
                have hfz89_0 := qd_ BK182 0
                have hfz89_1 := qd_ BK182 1
                have hfz89_2 := qd_ BK182 2
                have hfz89_3 := qd_ BK182 3
                go_wp2
                go_meet
                case rel => exact ⟨_, (((Go.bits .and .i64 (ji80) 1) == 1)), (by first | rfl | (simp; done) | (simp only [← hji80] <;> (first | rfl | simp)) | (simp [*]; done)), H', ⟨by have := HJ4.out; have := HK2.out; first | omega | exact Nat.le_refl _⟩, ⟨by (with_reducible repeat first | apply Kd.R_alloc | apply Kd.R_drewN | apply Kd.R_drew); exact Kd.R_mono (Kd.R_far (p := ⟨gb182, 3, none⟩) (Kd.R_far (p := ⟨gb182, 2, none⟩) (Kd.R_far (p := ⟨gb182, 1, none⟩) (Kd.R_far (p := ⟨gb182, 0, none⟩) (Kd.R_types HO_7.out BK182.out (by decide)) (fun _ hk => hk.2) (.int .i64 ((qj_ l0_0 x39_2).f0))) (fun _ hk => hk.2) (.int .i64 ((qj_ l0_0 x39_2).f1))) (fun _ hk => hk.2) (.int .i64 ((qj_ l0_0 x39_2).f2))) (fun _ hk => hk.2) (.int .i64 ((qj_ l0_0 x39_2).f3))) (fun _ hk => trivial)⟩, ⟨by (with_reducible repeat first | apply qa_ | apply qb_ | apply blk_alloc); refine qn_ ?_ NB175_182.out _; (with_reducible repeat first | apply qa_ | apply qb_ | apply blk_alloc); refine qn_ ?_ NB175_182.out _; (with_reducible repeat first | apply qa_ | apply qb_ | apply blk_alloc); refine qn_ ?_ NB175_182.out _; (with_reducible repeat first | apply qa_ | apply qb_ | apply blk_alloc); refine qn_ ?_ NB175_182.out _; (with_reducible repeat first | apply qa_ | apply qb_ | apply blk_alloc); exact BK175.out⟩, ⟨by (with_reducible repeat first | apply qa_ | apply qb_ | apply blk_alloc); refine qn_ ?_ NB176_182.out _; (with_reducible repeat first | apply qa_ | apply qb_ | apply blk_alloc); refine qn_ ?_ NB176_182.out _; (with_reducible repeat first | apply qa_ | apply qb_ | apply blk_alloc); refine qn_ ?_ NB176_182.out _; (with_reducible repeat first | apply qa_ | apply qb_ | apply blk_alloc); refine qn_ ?_ NB176_182.out _; (with_reducible repeat first | apply qa_ | apply qb_ | apply blk_alloc); exact BK176.out⟩, ⟨by (with_reducible repeat first | apply qa_ | apply qb_ | apply blk_alloc); refine qn_ ?_ NB177_182.out _; (with_reducible repeat first | apply qa_ | apply qb_ | apply blk_alloc); refine qn_ ?_ NB177_182.out _; (with_reducible repeat first | apply qa_ | apply qb_ | apply blk_alloc); refine qn_ ?_ NB177_182.out _; (with_reducible repeat first | apply qa_ | apply qb_ | apply blk_alloc); refine qn_ ?_ NB177_182.out _; (with_reducible repeat first | apply qa_ | apply qb_ | apply blk_alloc); exact BK177.out⟩, ⟨by (with_reducible repeat first | apply qa_ | apply qb_ | apply blk_alloc); refine qn_ ?_ NB180_182.out _; (with_reducible repeat first | apply qa_ | apply qb_ | apply blk_alloc); refine qn_ ?_ NB180_182.out _; (with_reducible repeat first | apply qa_ | apply qb_ | apply blk_alloc); refine qn_ ?_ NB180_182.out _; (with_reducible repeat first | apply qa_ | apply qb_ | apply blk_alloc); refine qn_ ?_ NB180_182.out _; (with_reducible repeat first | apply qa_ | apply qb_ | apply blk_alloc); exact BK180.out⟩, ⟨by (with_reducible repeat first | apply qa_ | apply qb_ | apply blk_alloc); refine qA_ (cs := #[.int .i64 ((qj_ l0_0 x39_2).f0), .int .i64 ((qj_ l0_0 x39_2).f1), .int .i64 ((qj_ l0_0 x39_2).f2), .int .i64 0]) ?_ 3 _ rfl; (with_reducible repeat first | apply qa_ | apply qb_ | apply blk_alloc); refine qA_ (cs := #[.int .i64 ((qj_ l0_0 x39_2).f0), .int .i64 ((qj_ l0_0 x39_2).f1), .int .i64 0, .int .i64 0]) ?_ 2 _ rfl; (with_reducible repeat first | apply qa_ | apply qb_ | apply blk_alloc); refine qA_ (cs := #[.int .i64 ((qj_ l0_0 x39_2).f0), .int .i64 0, .int .i64 0, .int .i64 0]) ?_ 1 _ rfl; (with_reducible repeat first | apply qa_ | apply qb_ | apply blk_alloc); refine qA_ (cs := #[.int .i64 0, .int .i64 0, .int .i64 0, .int .i64 0]) ?_ 0 _ rfl; (with_reducible repeat first | apply qa_ | apply qb_ | apply blk_alloc); exact BK182.out⟩, ⟨by repeat (first | (with_reducible first | exact HB.out | apply qh_ | apply qc_ | apply qf_ | refine qk_ ?_ (by assumption)) | exact HB.out)⟩⟩
               ·rw [if_neg c79] at H
                exact absurd H (by simp)
              ·rw [if_neg c78] at H
               have c78b0 : (((qj_ l0_0 x39_2).f0) == 4) = false := beq_eq_false_iff_ne.mpr c78
               have c78b1 : (((qj_ l0_0 x39_2).f0) != 4) = true := bne_iff_ne.mpr c78
               by_cases c90 : ((qj_ l0_0 x39_2).f0) = 5
               ·rw [if_pos c90] at H
                have c90b0 : (((qj_ l0_0 x39_2).f0) == 5) = true := beq_iff_eq.mpr c90
                have c90b1 : (((qj_ l0_0 x39_2).f0) != 5) = false := bne_eq_false_iff_eq.mpr c90
                clear c90
                by_cases c91 : 0 ≤ ((qj_ l0_0 x39_2).f2)
                ·rw [if_pos c91] at H
                 have c91b0 : decide (0 ≤ ((qj_ l0_0 x39_2).f2)) = true := decide_eq_true c91
                 clear c91
                 by_cases c92 : ((qj_ l0_0 x39_2).f2) < (x7_2.length : Int)
                 ·rw [if_pos c92] at H
                  have c92b0 : decide (((qj_ l0_0 x39_2).f2) < (x7_2.length : Int)) = true := decide_eq_true c92
                  clear c92
                  have H' := Aside0.mk H
                  clear H
                  have hcz97_0 := qg_ BK182 0 (.int .i64 0) rfl
                  have hcz97_1 := qg_ BK182 1 (.int .i64 0) rfl
                  have hcz97_2 := qg_ BK182 2 (.int .i64 0) rfl
                  have hcz97_3 := qg_ BK182 3 (.int .i64 0) rfl
                  have hfz97_0 := qd_ BK182 0
                  have hfz97_1 := qd_ BK182 1
                  have hfz97_2 := qd_ BK182 2
                  have hfz97_3 := qd_ BK182 3
                  obtain ⟨Ao98, co98, eo98⟩ := Kd.R_slice HO_7.out
                  subst eo98
                  have p183 : 0 ≤ (((qj_ l0_0 x39_2).f2) : Int) := of_decide_eq_true (by assumption)
                  have q183 : ((qj_ l0_0 x39_2).f2) < (x7_2.length : Int) := of_decide_eq_true (by assumption)
                  obtain ⟨ad183, e183, hx183_0⟩ := Kd.at_bool (Kd.R_reads' HO_7.out).2.2 ((qj_ l0_0 x39_2).f2) p183 q183
                  cases e183
                  have hn183_0 : ad183.block ≠ gb182 := Kd.own_blk (Kd.R_ne HO_7.out BK182.out (by decide))
                  have hn183_1 : ad183.block ≠ gb182 := Kd.own_blk (Kd.R_ne HO_7.out BK182.out (by decide))
                  have hn183_2 : ad183.block ≠ gb182 := Kd.own_blk (Kd.R_ne HO_7.out BK182.out (by decide))
                  have hn183_3 : ad183.block ≠ gb182 := Kd.own_blk (Kd.R_ne HO_7.out BK182.out (by decide))
                  replace hx183_0 := (cell_far (p := ⟨gb182, 0, none⟩) (by first | (rw [add_block]; exact hn183_0) | (show (Addr.add _ _).block ≠ _; rw [add_block]; exact hn183_0) | exact hn183_0) (.int .i64 ((qj_ l0_0 x39_2).f0))).trans hx183_0
                  replace hx183_0 := (cell_far (p := ⟨gb182, 1, none⟩) (by first | (rw [add_block]; exact hn183_1) | (show (Addr.add _ _).block ≠ _; rw [add_block]; exact hn183_1) | exact hn183_1) (.int .i64 ((qj_ l0_0 x39_2).f1))).trans hx183_0
                  replace hx183_0 := (cell_far (p := ⟨gb182, 2, none⟩) (by first | (rw [add_block]; exact hn183_2) | (show (Addr.add _ _).block ≠ _; rw [add_block]; exact hn183_2) | exact hn183_2) (.int .i64 ((qj_ l0_0 x39_2).f2))).trans hx183_0
                  replace hx183_0 := (cell_far (p := ⟨gb182, 3, none⟩) (by first | (rw [add_block]; exact hn183_3) | (show (Addr.add _ _).block ≠ _; rw [add_block]; exact hn183_3) | exact hn183_3) (.int .i64 ((qj_ l0_0 x39_2).f3))).trans hx183_0
                  clear hn183_0
                  clear hn183_1
                  clear hn183_2
                  clear hn183_3
                  replace p183 := eq_true p183
                  replace q183 := eq_true q183
                  go_wp2
                  go_meet
                  case rel => exact ⟨_, (!(rdOf false x7_2 ((qj_ l0_0 x39_2).f2))), (by first | rfl | (simp [*]; done)), H', ⟨by have := HJ4.out; have := HK2.out; first | omega | exact Nat.le_refl _⟩, ⟨by (with_reducible repeat first | apply Kd.R_alloc | apply Kd.R_drewN | apply Kd.R_drew); exact Kd.R_mono (Kd.R_far (p := ⟨gb182, 3, none⟩) (Kd.R_far (p := ⟨gb182, 2, none⟩) (Kd.R_far (p := ⟨gb182, 1, none⟩) (Kd.R_far (p := ⟨gb182, 0, none⟩) (Kd.R_types HO_7.out BK182.out (by decide)) (fun _ hk => hk.2) (.int .i64 ((qj_ l0_0 x39_2).f0))) (fun _ hk => hk.2) (.int .i64 ((qj_ l0_0 x39_2).f1))) (fun _ hk => hk.2) (.int .i64 ((qj_ l0_0 x39_2).f2))) (fun _ hk => hk.2) (.int .i64 ((qj_ l0_0 x39_2).f3))) (fun _ hk => trivial)⟩, ⟨by (with_reducible repeat first | apply qa_ | apply qb_ | apply blk_alloc); refine qn_ ?_ NB175_182.out _; (with_reducible repeat first | apply qa_ | apply qb_ | apply blk_alloc); refine qn_ ?_ NB175_182.out _; (with_reducible repeat first | apply qa_ | apply qb_ | apply blk_alloc); refine qn_ ?_ NB175_182.out _; (with_reducible repeat first | apply qa_ | apply qb_ | apply blk_alloc); refine qn_ ?_ NB175_182.out _; (with_reducible repeat first | apply qa_ | apply qb_ | apply blk_alloc); exact BK175.out⟩, ⟨by (with_reducible repeat first | apply qa_ | apply qb_ | apply blk_alloc); refine qn_ ?_ NB176_182.out _; (with_reducible repeat first | apply qa_ | apply qb_ | apply blk_alloc); refine qn_ ?_ NB176_182.out _; (with_reducible repeat first | apply qa_ | apply qb_ | apply blk_alloc); refine qn_ ?_ NB176_182.out _; (with_reducible repeat first | apply qa_ | apply qb_ | apply blk_alloc); refine qn_ ?_ NB176_182.out _; (with_reducible repeat first | apply qa_ | apply qb_ | apply blk_alloc); exact BK176.out⟩, ⟨by (with_reducible repeat first | apply qa_ | apply qb_ | apply blk_alloc); refine qn_ ?_ NB177_182.out _; (with_reducible repeat first | apply qa_ | apply qb_ | apply blk_alloc); refine qn_ ?_ NB177_182.out _; (with_reducible repeat first | apply qa_ | apply qb_ | apply blk_alloc); refine qn_ ?_ NB177_182.out _; (with_reducible repeat first | apply qa_ | apply qb_ | apply blk_alloc); refine qn_ ?_ NB177_182.out _; (with_reducible repeat first | apply qa_ | apply qb_ | apply blk_alloc); exact BK177.out⟩, ⟨by (with_reducible repeat first | apply qa_ | apply qb_ | apply blk_alloc); refine qn_ ?_ NB180_182.out _; (with_reducible repeat first | apply qa_ | apply qb_ | apply blk_alloc); refine qn_ ?_ NB180_182.out _; (with_reducible repeat first | apply qa_ | apply qb_ | apply blk_alloc); refine qn_ ?_ NB180_182.out _; (with_reducible repeat first | apply qa_ | apply qb_ | apply blk_alloc); refine qn_ ?_ NB180_182.out _; (with_reducible repeat first | apply qa_ | apply qb_ | apply blk_alloc); exact BK180.out⟩, ⟨by (with_reducible repeat first | apply qa_ | apply qb_ | apply blk_alloc); refine qA_ (cs := #[.int .i64 ((qj_ l0_0 x39_2).f0), .int .i64 ((qj_ l0_0 x39_2).f1), .int .i64 ((qj_ l0_0 x39_2).f2), .int .i64 0]) ?_ 3 _ rfl; (with_reducible repeat first | apply qa_ | apply qb_ | apply blk_alloc); refine qA_ (cs := #[.int .i64 ((qj_ l0_0 x39_2).f0), .int .i64 ((qj_ l0_0 x39_2).f1), .int .i64 0, .int .i64 0]) ?_ 2 _ rfl; (with_reducible repeat first | apply qa_ | apply qb_ | apply blk_alloc); refine qA_ (cs := #[.int .i64 ((qj_ l0_0 x39_2).f0), .int .i64 0, .int .i64 0, .int .i64 0]) ?_ 1 _ rfl; (with_reducible repeat first | apply qa_ | apply qb_ | apply blk_alloc); refine qA_ (cs := #[.int .i64 0, .int .i64 0, .int .i64 0, .int .i64 0]) ?_ 0 _ rfl; (with_reducible repeat first | apply qa_ | apply qb_ | apply blk_alloc); exact BK182.out⟩, ⟨by repeat (first | (with_reducible first | exact HB.out | apply qh_ | apply qc_ | apply qf_ | refine qk_ ?_ (by assumption)) | exact HB.out)⟩⟩
                 ·rw [if_neg c92] at H
                  exact absurd H (by simp)
                ·rw [if_neg c91] at H
                 exact absurd H (by simp)
               ·rw [if_neg c90] at H
                have c90b0 : (((qj_ l0_0 x39_2).f0) == 5) = false := beq_eq_false_iff_ne.mpr c90
                have c90b1 : (((qj_ l0_0 x39_2).f0) != 5) = true := bne_iff_ne.mpr c90
                by_cases c99 : ((qj_ l0_0 x39_2).f0) = 6
                ·rw [if_pos c99] at H
                 have c99b0 : (((qj_ l0_0 x39_2).f0) == 6) = true := beq_iff_eq.mpr c99
                 have c99b1 : (((qj_ l0_0 x39_2).f0) != 6) = false := bne_eq_false_iff_eq.mpr c99
                 clear c99
                 by_cases c100 : 0 ≤ ((qj_ l0_0 x39_2).f2)
                 ·rw [if_pos c100] at H
                  have c100b0 : decide (0 ≤ ((qj_ l0_0 x39_2).f2)) = true := decide_eq_true c100
                  clear c100
                  by_cases c101 : ((qj_ l0_0 x39_2).f2) < (x7_2.length : Int)
                  ·rw [if_pos c101] at H
                   have c101b0 : decide (((qj_ l0_0 x39_2).f2) < (x7_2.length : Int)) = true := decide_eq_true c101
                   clear c101
                   obtain ⟨bq102, hbq102⟩ : ∃ b_ : Bool, b_ = (rdOf false x7_2 ((qj_ l0_0 x39_2).f2)) := ⟨_, rfl⟩
                   replace H : (if bq102 = true then (if 0 ≤ ((qj_ l0_0 x39_2).f3) then (if ((qj_ l0_0 x39_2).f3) < (x7_2.length : Int) then (qC_.j2 k2 x7_2 (rdOf false x7_2 ((qj_ l0_0 x39_2).f3)) l0_0 (l0_0.length : Int) x39_2 a1_0 a1_1 a1_2 a1_3) else (none)) else (none)) else (qC_.j2 k2 x7_2 false l0_0 (l0_0.length : Int) x39_2 a1_0 a1_1 a1_2 a1_3)) = some (r1, r2, r3) := by rw [← hbq102] at H; exact H
                   have Nbq102 := Aside0.mk hbq102
                   clear hbq102
                   by_cases c103 : bq102 = true
                   ·subst c103
                    have H1 : (if 0 ≤ ((qj_ l0_0 x39_2).f3) then (if ((qj_ l0_0 x39_2).f3) < (x7_2.length : Int) then (qC_.j2 k2 x7_2 (rdOf false x7_2 ((qj_ l0_0 x39_2).f3)) l0_0 (l0_0.length : Int) x39_2 a1_0 a1_1 a1_2 a1_3) else (none)) else (none)) = some (r1, r2, r3) := by rw [if_pos rfl] at H; exact H
                    clear H
                    have H := H1
                    clear H1
                    by_cases c104 : 0 ≤ ((qj_ l0_0 x39_2).f3)
                    ·rw [if_pos c104] at H
                     have c104b0 : decide (0 ≤ ((qj_ l0_0 x39_2).f3)) = true := decide_eq_true c104
                     clear c104
                     by_cases c105 : ((qj_ l0_0 x39_2).f3) < (x7_2.length : Int)
                     ·rw [if_pos c105] at H
                      have c105b0 : decide (((qj_ l0_0 x39_2).f3) < (x7_2.length : Int)) = true := decide_eq_true c105
                      clear c105
                      have H' := Aside0.mk H
                      clear H
                      have hcz110_0 := qg_ BK182 0 (.int .i64 0) rfl
                      have hcz110_1 := qg_ BK182 1 (.int .i64 0) rfl
                      have hcz110_2 := qg_ BK182 2 (.int .i64 0) rfl
                      have hcz110_3 := qg_ BK182 3 (.int .i64 0) rfl
                      have hfz110_0 := qd_ BK182 0
                      have hfz110_1 := qd_ BK182 1
                      have hfz110_2 := qd_ BK182 2
                      have hfz110_3 := qd_ BK182 3
                      obtain ⟨Ao111, co111, eo111⟩ := Kd.R_slice HO_7.out
                      subst eo111
                      have p184 : 0 ≤ (((qj_ l0_0 x39_2).f2) : Int) := of_decide_eq_true (by assumption)
                      have q184 : ((qj_ l0_0 x39_2).f2) < (x7_2.length : Int) := of_decide_eq_true (by assumption)
                      obtain ⟨ad184, e184, hx184_0⟩ := Kd.at_bool (Kd.R_reads' HO_7.out).2.2 ((qj_ l0_0 x39_2).f2) p184 q184
                      (try rw [← Nbq102.out] at hx184_0)
                      cases e184
                      have hn184_0 : ad184.block ≠ gb182 := Kd.own_blk (Kd.R_ne HO_7.out BK182.out (by decide))
                      have hn184_1 : ad184.block ≠ gb182 := Kd.own_blk (Kd.R_ne HO_7.out BK182.out (by decide))
                      have hn184_2 : ad184.block ≠ gb182 := Kd.own_blk (Kd.R_ne HO_7.out BK182.out (by decide))
                      have hn184_3 : ad184.block ≠ gb182 := Kd.own_blk (Kd.R_ne HO_7.out BK182.out (by decide))
                      replace hx184_0 := (cell_far (p := ⟨gb182, 0, none⟩) (by first | (rw [add_block]; exact hn184_0) | (show (Addr.add _ _).block ≠ _; rw [add_block]; exact hn184_0) | exact hn184_0) (.int .i64 ((qj_ l0_0 x39_2).f0))).trans hx184_0
                      replace hx184_0 := (cell_far (p := ⟨gb182, 1, none⟩) (by first | (rw [add_block]; exact hn184_1) | (show (Addr.add _ _).block ≠ _; rw [add_block]; exact hn184_1) | exact hn184_1) (.int .i64 ((qj_ l0_0 x39_2).f1))).trans hx184_0
                      replace hx184_0 := (cell_far (p := ⟨gb182, 2, none⟩) (by first | (rw [add_block]; exact hn184_2) | (show (Addr.add _ _).block ≠ _; rw [add_block]; exact hn184_2) | exact hn184_2) (.int .i64 ((qj_ l0_0 x39_2).f2))).trans hx184_0
                      replace hx184_0 := (cell_far (p := ⟨gb182, 3, none⟩) (by first | (rw [add_block]; exact hn184_3) | (show (Addr.add _ _).block ≠ _; rw [add_block]; exact hn184_3) | exact hn184_3) (.int .i64 ((qj_ l0_0 x39_2).f3))).trans hx184_0
                      clear hn184_0
                      clear hn184_1
                      clear hn184_2
                      clear hn184_3
                      replace p184 := eq_true p184
                      replace q184 := eq_true q184
                      have p185 : 0 ≤ (((qj_ l0_0 x39_2).f3) : Int) := of_decide_eq_true (by assumption)
                      have q185 : ((qj_ l0_0 x39_2).f3) < (x7_2.length : Int) := of_decide_eq_true (by assumption)
                      obtain ⟨ad185, e185, hx185_0⟩ := Kd.at_bool (Kd.R_reads' HO_7.out).2.2 ((qj_ l0_0 x39_2).f3) p185 q185
                      (try rw [← Nbq102.out] at hx185_0)
                      obtain rfl : ad184 = ad185 := (by injection e185)
                      have hn185_0 : ad184.block ≠ gb182 := Kd.own_blk (Kd.R_ne HO_7.out BK182.out (by decide))
                      have hn185_1 : ad184.block ≠ gb182 := Kd.own_blk (Kd.R_ne HO_7.out BK182.out (by decide))
                      have hn185_2 : ad184.block ≠ gb182 := Kd.own_blk (Kd.R_ne HO_7.out BK182.out (by decide))
                      have hn185_3 : ad184.block ≠ gb182 := Kd.own_blk (Kd.R_ne HO_7.out BK182.out (by decide))
                      replace hx185_0 := (cell_far (p := ⟨gb182, 0, none⟩) (by first | (rw [add_block]; exact hn185_0) | (show (Addr.add _ _).block ≠ _; rw [add_block]; exact hn185_0) | exact hn185_0) (.int .i64 ((qj_ l0_0 x39_2).f0))).trans hx185_0
                      replace hx185_0 := (cell_far (p := ⟨gb182, 1, none⟩) (by first | (rw [add_block]; exact hn185_1) | (show (Addr.add _ _).block ≠ _; rw [add_block]; exact hn185_1) | exact hn185_1) (.int .i64 ((qj_ l0_0 x39_2).f1))).trans hx185_0
                      replace hx185_0 := (cell_far (p := ⟨gb182, 2, none⟩) (by first | (rw [add_block]; exact hn185_2) | (show (Addr.add _ _).block ≠ _; rw [add_block]; exact hn185_2) | exact hn185_2) (.int .i64 ((qj_ l0_0 x39_2).f2))).trans hx185_0
                      replace hx185_0 := (cell_far (p := ⟨gb182, 3, none⟩) (by first | (rw [add_block]; exact hn185_3) | (show (Addr.add _ _).block ≠ _; rw [add_block]; exact hn185_3) | exact hn185_3) (.int .i64 ((qj_ l0_0 x39_2).f3))).trans hx185_0
                      clear hn185_0
                      clear hn185_1
                      clear hn185_2
                      clear hn185_3
                      replace p185 := eq_true p185
                      replace q185 := eq_true q185
                      go_wp2
                      go_meet
                      case rel => exact ⟨_, (rdOf false x7_2 ((qj_ l0_0 x39_2).f3)), (by first | rfl | (simp [*]; done)), H', ⟨by have := HJ4.out; have := HK2.out; first | omega | exact Nat.le_refl _⟩, ⟨by (with_reducible repeat first | apply Kd.R_alloc | apply Kd.R_drewN | apply Kd.R_drew); exact Kd.R_mono (Kd.R_far (p := ⟨gb182, 3, none⟩) (Kd.R_far (p := ⟨gb182, 2, none⟩) (Kd.R_far (p := ⟨gb182, 1, none⟩) (Kd.R_far (p := ⟨gb182, 0, none⟩) (Kd.R_types HO_7.out BK182.out (by decide)) (fun _ hk => hk.2) (.int .i64 ((qj_ l0_0 x39_2).f0))) (fun _ hk => hk.2) (.int .i64 ((qj_ l0_0 x39_2).f1))) (fun _ hk => hk.2) (.int .i64 ((qj_ l0_0 x39_2).f2))) (fun _ hk => hk.2) (.int .i64 ((qj_ l0_0 x39_2).f3))) (fun _ hk => trivial)⟩, ⟨by (with_reducible repeat first | apply qa_ | apply qb_ | apply blk_alloc); refine qn_ ?_ NB175_182.out _; (with_reducible repeat first | apply qa_ | apply qb_ | apply blk_alloc); refine qn_ ?_ NB175_182.out _; (with_reducible repeat first | apply qa_ | apply qb_ | apply blk_alloc); refine qn_ ?_ NB175_182.out _; (with_reducible repeat first | apply qa_ | apply qb_ | apply blk_alloc); refine qn_ ?_ NB175_182.out _; (with_reducible repeat first | apply qa_ | apply qb_ | apply blk_alloc); exact BK175.out⟩, ⟨by (with_reducible repeat first | apply qa_ | apply qb_ | apply blk_alloc); refine qn_ ?_ NB176_182.out _; (with_reducible repeat first | apply qa_ | apply qb_ | apply blk_alloc); refine qn_ ?_ NB176_182.out _; (with_reducible repeat first | apply qa_ | apply qb_ | apply blk_alloc); refine qn_ ?_ NB176_182.out _; (with_reducible repeat first | apply qa_ | apply qb_ | apply blk_alloc); refine qn_ ?_ NB176_182.out _; (with_reducible repeat first | apply qa_ | apply qb_ | apply blk_alloc); exact BK176.out⟩, ⟨by (with_reducible repeat first | apply qa_ | apply qb_ | apply blk_alloc); refine qn_ ?_ NB177_182.out _; (with_reducible repeat first | apply qa_ | apply qb_ | apply blk_alloc); refine qn_ ?_ NB177_182.out _; (with_reducible repeat first | apply qa_ | apply qb_ | apply blk_alloc); refine qn_ ?_ NB177_182.out _; (with_reducible repeat first | apply qa_ | apply qb_ | apply blk_alloc); refine qn_ ?_ NB177_182.out _; (with_reducible repeat first | apply qa_ | apply qb_ | apply blk_alloc); exact BK177.out⟩, ⟨by (with_reducible repeat first | apply qa_ | apply qb_ | apply blk_alloc); refine qn_ ?_ NB180_182.out _; (with_reducible repeat first | apply qa_ | apply qb_ | apply blk_alloc); refine qn_ ?_ NB180_182.out _; (with_reducible repeat first | apply qa_ | apply qb_ | apply blk_alloc); refine qn_ ?_ NB180_182.out _; (with_reducible repeat first | apply qa_ | apply qb_ | apply blk_alloc); refine qn_ ?_ NB180_182.out _; (with_reducible repeat first | apply qa_ | apply qb_ | apply blk_alloc); exact BK180.out⟩, ⟨by (with_reducible repeat first | apply qa_ | apply qb_ | apply blk_alloc); refine qA_ (cs := #[.int .i64 ((qj_ l0_0 x39_2).f0), .int .i64 ((qj_ l0_0 x39_2).f1), .int .i64 ((qj_ l0_0 x39_2).f2), .int .i64 0]) ?_ 3 _ rfl; (with_reducible repeat first | apply qa_ | apply qb_ | apply blk_alloc); refine qA_ (cs := #[.int .i64 ((qj_ l0_0 x39_2).f0), .int .i64 ((qj_ l0_0 x39_2).f1), .int .i64 0, .int .i64 0]) ?_ 2 _ rfl; (with_reducible repeat first | apply qa_ | apply qb_ | apply blk_alloc); refine qA_ (cs := #[.int .i64 ((qj_ l0_0 x39_2).f0), .int .i64 0, .int .i64 0, .int .i64 0]) ?_ 1 _ rfl; (with_reducible repeat first | apply qa_ | apply qb_ | apply blk_alloc); refine qA_ (cs := #[.int .i64 0, .int .i64 0, .int .i64 0, .int .i64 0]) ?_ 0 _ rfl; (with_reducible repeat first | apply qa_ | apply qb_ | apply blk_alloc); exact BK182.out⟩, ⟨by repeat (first | (with_reducible first | exact HB.out | apply qh_ | apply qc_ | apply qf_ | refine qk_ ?_ (by assumption)) | exact HB.out)⟩⟩
                     ·rw [if_neg c105] at H
                      exact absurd H (by simp)
                    ·rw [if_neg c104] at H
                     exact absurd H (by simp)
                   ·replace c103 := Bool.eq_false_iff.mpr c103
                    subst c103
                    have H1 : (qC_.j2 k2 x7_2 false l0_0 (l0_0.length : Int) x39_2 a1_0 a1_1 a1_2 a1_3) = some (r1, r2, r3) := by rw [if_neg (show ¬ (false = true) by decide)] at H; exact H
                    clear H
                    have H := H1
                    clear H1
                    have H' := Aside0.mk H
                    clear H
                    have hcz116_0 := qg_ BK182 0 (.int .i64 0) rfl
                    have hcz116_1 := qg_ BK182 1 (.int .i64 0) rfl
                    have hcz116_2 := qg_ BK182 2 (.int .i64 0) rfl
                    have hcz116_3 := qg_ BK182 3 (.int .i64 0) rfl
                    have hfz116_0 := qd_ BK182 0
                    have hfz116_1 := qd_ BK182 1
                    have hfz116_2 := qd_ BK182 2
                    have hfz116_3 := qd_ BK182 3
                    obtain ⟨Ao117, co117, eo117⟩ := Kd.R_slice HO_7.out
                    subst eo117
                    have p184 : 0 ≤ (((qj_ l0_0 x39_2).f2) : Int) := of_decide_eq_true (by assumption)
                    have q184 : ((qj_ l0_0 x39_2).f2) < (x7_2.length : Int) := of_decide_eq_true (by assumption)
                    obtain ⟨ad184, e184, hx184_0⟩ := Kd.at_bool (Kd.R_reads' HO_7.out).2.2 ((qj_ l0_0 x39_2).f2) p184 q184
                    (try rw [← Nbq102.out] at hx184_0)
                    cases e184
                    have hn184_0 : ad184.block ≠ gb182 := Kd.own_blk (Kd.R_ne HO_7.out BK182.out (by decide))
                    have hn184_1 : ad184.block ≠ gb182 := Kd.own_blk (Kd.R_ne HO_7.out BK182.out (by decide))
                    have hn184_2 : ad184.block ≠ gb182 := Kd.own_blk (Kd.R_ne HO_7.out BK182.out (by decide))
                    have hn184_3 : ad184.block ≠ gb182 := Kd.own_blk (Kd.R_ne HO_7.out BK182.out (by decide))
                    replace hx184_0 := (cell_far (p := ⟨gb182, 0, none⟩) (by first | (rw [add_block]; exact hn184_0) | (show (Addr.add _ _).block ≠ _; rw [add_block]; exact hn184_0) | exact hn184_0) (.int .i64 ((qj_ l0_0 x39_2).f0))).trans hx184_0
                    replace hx184_0 := (cell_far (p := ⟨gb182, 1, none⟩) (by first | (rw [add_block]; exact hn184_1) | (show (Addr.add _ _).block ≠ _; rw [add_block]; exact hn184_1) | exact hn184_1) (.int .i64 ((qj_ l0_0 x39_2).f1))).trans hx184_0
                    replace hx184_0 := (cell_far (p := ⟨gb182, 2, none⟩) (by first | (rw [add_block]; exact hn184_2) | (show (Addr.add _ _).block ≠ _; rw [add_block]; exact hn184_2) | exact hn184_2) (.int .i64 ((qj_ l0_0 x39_2).f2))).trans hx184_0
                    replace hx184_0 := (cell_far (p := ⟨gb182, 3, none⟩) (by first | (rw [add_block]; exact hn184_3) | (show (Addr.add _ _).block ≠ _; rw [add_block]; exact hn184_3) | exact hn184_3) (.int .i64 ((qj_ l0_0 x39_2).f3))).trans hx184_0
                    clear hn184_0
                    clear hn184_1
                    clear hn184_2
                    clear hn184_3
                    replace p184 := eq_true p184
                    replace q184 := eq_true q184
                    go_wp2
                    go_meet
                    case rel => exact ⟨_, (false), (by first | rfl | (simp [*]; done)), H', ⟨by have := HJ4.out; have := HK2.out; first | omega | exact Nat.le_refl _⟩, ⟨by (with_reducible repeat first | apply Kd.R_alloc | apply Kd.R_drewN | apply Kd.R_drew); exact Kd.R_mono (Kd.R_far (p := ⟨gb182, 3, none⟩) (Kd.R_far (p := ⟨gb182, 2, none⟩) (Kd.R_far (p := ⟨gb182, 1, none⟩) (Kd.R_far (p := ⟨gb182, 0, none⟩) (Kd.R_types HO_7.out BK182.out (by decide)) (fun _ hk => hk.2) (.int .i64 ((qj_ l0_0 x39_2).f0))) (fun _ hk => hk.2) (.int .i64 ((qj_ l0_0 x39_2).f1))) (fun _ hk => hk.2) (.int .i64 ((qj_ l0_0 x39_2).f2))) (fun _ hk => hk.2) (.int .i64 ((qj_ l0_0 x39_2).f3))) (fun _ hk => trivial)⟩, ⟨by (with_reducible repeat first | apply qa_ | apply qb_ | apply blk_alloc); refine qn_ ?_ NB175_182.out _; (with_reducible repeat first | apply qa_ | apply qb_ | apply blk_alloc); refine qn_ ?_ NB175_182.out _; (with_reducible repeat first | apply qa_ | apply qb_ | apply blk_alloc); refine qn_ ?_ NB175_182.out _; (with_reducible repeat first | apply qa_ | apply qb_ | apply blk_alloc); refine qn_ ?_ NB175_182.out _; (with_reducible repeat first | apply qa_ | apply qb_ | apply blk_alloc); exact BK175.out⟩, ⟨by (with_reducible repeat first | apply qa_ | apply qb_ | apply blk_alloc); refine qn_ ?_ NB176_182.out _; (with_reducible repeat first | apply qa_ | apply qb_ | apply blk_alloc); refine qn_ ?_ NB176_182.out _; (with_reducible repeat first | apply qa_ | apply qb_ | apply blk_alloc); refine qn_ ?_ NB176_182.out _; (with_reducible repeat first | apply qa_ | apply qb_ | apply blk_alloc); refine qn_ ?_ NB176_182.out _; (with_reducible repeat first | apply qa_ | apply qb_ | apply blk_alloc); exact BK176.out⟩, ⟨by (with_reducible repeat first | apply qa_ | apply qb_ | apply blk_alloc); refine qn_ ?_ NB177_182.out _; (with_reducible repeat first | apply qa_ | apply qb_ | apply blk_alloc); refine qn_ ?_ NB177_182.out _; (with_reducible repeat first | apply qa_ | apply qb_ | apply blk_alloc); refine qn_ ?_ NB177_182.out _; (with_reducible repeat first | apply qa_ | apply qb_ | apply blk_alloc); refine qn_ ?_ NB177_182.out _; (with_reducible repeat first | apply qa_ | apply qb_ | apply blk_alloc); exact BK177.out⟩, ⟨by (with_reducible repeat first | apply qa_ | apply qb_ | apply blk_alloc); refine qn_ ?_ NB180_182.out _; (with_reducible repeat first | apply qa_ | apply qb_ | apply blk_alloc); refine qn_ ?_ NB180_182.out _; (with_reducible repeat first | apply qa_ | apply qb_ | apply blk_alloc); refine qn_ ?_ NB180_182.out _; (with_reducible repeat first | apply qa_ | apply qb_ | apply blk_alloc); refine qn_ ?_ NB180_182.out _; (with_reducible repeat first | apply qa_ | apply qb_ | apply blk_alloc); exact BK180.out⟩, ⟨by (with_reducible repeat first | apply qa_ | apply qb_ | apply blk_alloc); refine qA_ (cs := #[.int .i64 ((qj_ l0_0 x39_2).f0), .int .i64 ((qj_ l0_0 x39_2).f1), .int .i64 ((qj_ l0_0 x39_2).f2), .int .i64 0]) ?_ 3 _ rfl; (with_reducible repeat first | apply qa_ | apply qb_ | apply blk_alloc); refine qA_ (cs := #[.int .i64 ((qj_ l0_0 x39_2).f0), .int .i64 ((qj_ l0_0 x39_2).f1), .int .i64 0, .int .i64 0]) ?_ 2 _ rfl; (with_reducible repeat first | apply qa_ | apply qb_ | apply blk_alloc); refine qA_ (cs := #[.int .i64 ((qj_ l0_0 x39_2).f0), .int .i64 0, .int .i64 0, .int .i64 0]) ?_ 1 _ rfl; (with_reducible repeat first | apply qa_ | apply qb_ | apply blk_alloc); refine qA_ (cs := #[.int .i64 0, .int .i64 0, .int .i64 0, .int .i64 0]) ?_ 0 _ rfl; (with_reducible repeat first | apply qa_ | apply qb_ | apply blk_alloc); exact BK182.out⟩, ⟨by repeat (first | (with_reducible first | exact HB.out | apply qh_ | apply qc_ | apply qf_ | refine qk_ ?_ (by assumption)) | exact HB.out)⟩⟩
                  ·rw [if_neg c101] at H
                   exact absurd H (by simp)
                 ·rw [if_neg c100] at H
                  exact absurd H (by simp)
                ·rw [if_neg c99] at H
                 have c99b0 : (((qj_ l0_0 x39_2).f0) == 6) = false := beq_eq_false_iff_ne.mpr c99
                 have c99b1 : (((qj_ l0_0 x39_2).f0) != 6) = true := bne_iff_ne.mpr c99
                 by_cases c118 : 0 ≤ ((qj_ l0_0 x39_2).f2)
                 ·rw [if_pos c118] at H
                  have c118b0 : decide (0 ≤ ((qj_ l0_0 x39_2).f2)) = true := decide_eq_true c118
                  clear c118
                  by_cases c119 : ((qj_ l0_0 x39_2).f2) < (x7_2.length : Int)
                  ·rw [if_pos c119] at H
                   have c119b0 : decide (((qj_ l0_0 x39_2).f2) < (x7_2.length : Int)) = true := decide_eq_true c119
                   clear c119
                   obtain ⟨bq120, hbq120⟩ : ∃ b_ : Bool, b_ = (rdOf false x7_2 ((qj_ l0_0 x39_2).f2)) := ⟨_, rfl⟩
                   replace H : (if bq120 = true then (qC_.j2 k2 x7_2 true l0_0 (l0_0.length : Int) x39_2 a1_0 a1_1 a1_2 a1_3) else (if 0 ≤ ((qj_ l0_0 x39_2).f3) then (if ((qj_ l0_0 x39_2).f3) < (x7_2.length : Int) then (qC_.j2 k2 x7_2 (rdOf false x7_2 ((qj_ l0_0 x39_2).f3)) l0_0 (l0_0.length : Int) x39_2 a1_0 a1_1 a1_2 a1_3) else (none)) else (none))) = some (r1, r2, r3) := by rw [← hbq120] at H; exact H
                   have Nbq120 := Aside0.mk hbq120
                   clear hbq120
                   by_cases c121 : bq120 = true
                   ·subst c121
                    have H1 : (qC_.j2 k2 x7_2 true l0_0 (l0_0.length : Int) x39_2 a1_0 a1_1 a1_2 a1_3) = some (r1, r2, r3) := by rw [if_pos rfl] at H; exact H
                    clear H
                    have H := H1
                    clear H1
                    have H' := Aside0.mk H
                    clear H
                    have hcz126_0 := qg_ BK182 0 (.int .i64 0) rfl
                    have hcz126_1 := qg_ BK182 1 (.int .i64 0) rfl
                    have hcz126_2 := qg_ BK182 2 (.int .i64 0) rfl
                    have hcz126_3 := qg_ BK182 3 (.int .i64 0) rfl
                    have hfz126_0 := qd_ BK182 0
                    have hfz126_1 := qd_ BK182 1
                    have hfz126_2 := qd_ BK182 2
                    have hfz126_3 := qd_ BK182 3
                    obtain ⟨Ao127, co127, eo127⟩ := Kd.R_slice HO_7.out
                    subst eo127
                    have p186 : 0 ≤ (((qj_ l0_0 x39_2).f2) : Int) := of_decide_eq_true (by assumption)
                    have q186 : ((qj_ l0_0 x39_2).f2) < (x7_2.length : Int) := of_decide_eq_true (by assumption)
                    obtain ⟨ad186, e186, hx186_0⟩ := Kd.at_bool (Kd.R_reads' HO_7.out).2.2 ((qj_ l0_0 x39_2).f2) p186 q186
                    (try rw [← Nbq120.out] at hx186_0)
                    cases e186
                    have hn186_0 : ad186.block ≠ gb182 := Kd.own_blk (Kd.R_ne HO_7.out BK182.out (by decide))
                    have hn186_1 : ad186.block ≠ gb182 := Kd.own_blk (Kd.R_ne HO_7.out BK182.out (by decide))
                    have hn186_2 : ad186.block ≠ gb182 := Kd.own_blk (Kd.R_ne HO_7.out BK182.out (by decide))
                    have hn186_3 : ad186.block ≠ gb182 := Kd.own_blk (Kd.R_ne HO_7.out BK182.out (by decide))
                    replace hx186_0 := (cell_far (p := ⟨gb182, 0, none⟩) (by first | (rw [add_block]; exact hn186_0) | (show (Addr.add _ _).block ≠ _; rw [add_block]; exact hn186_0) | exact hn186_0) (.int .i64 ((qj_ l0_0 x39_2).f0))).trans hx186_0
                    replace hx186_0 := (cell_far (p := ⟨gb182, 1, none⟩) (by first | (rw [add_block]; exact hn186_1) | (show (Addr.add _ _).block ≠ _; rw [add_block]; exact hn186_1) | exact hn186_1) (.int .i64 ((qj_ l0_0 x39_2).f1))).trans hx186_0
                    replace hx186_0 := (cell_far (p := ⟨gb182, 2, none⟩) (by first | (rw [add_block]; exact hn186_2) | (show (Addr.add _ _).block ≠ _; rw [add_block]; exact hn186_2) | exact hn186_2) (.int .i64 ((qj_ l0_0 x39_2).f2))).trans hx186_0
                    replace hx186_0 := (cell_far (p := ⟨gb182, 3, none⟩) (by first | (rw [add_block]; exact hn186_3) | (show (Addr.add _ _).block ≠ _; rw [add_block]; exact hn186_3) | exact hn186_3) (.int .i64 ((qj_ l0_0 x39_2).f3))).trans hx186_0
                    clear hn186_0
                    clear hn186_1
                    clear hn186_2
                    clear hn186_3
                    replace p186 := eq_true p186
                    replace q186 := eq_true q186
                    go_wp2
                    go_meet
                    case rel => exact ⟨_, (true), (by first | rfl | (simp [*]; done)), H', ⟨by have := HJ4.out; have := HK2.out; first | omega | exact Nat.le_refl _⟩, ⟨by (with_reducible repeat first | apply Kd.R_alloc | apply Kd.R_drewN | apply Kd.R_drew); exact Kd.R_mono (Kd.R_far (p := ⟨gb182, 3, none⟩) (Kd.R_far (p := ⟨gb182, 2, none⟩) (Kd.R_far (p := ⟨gb182, 1, none⟩) (Kd.R_far (p := ⟨gb182, 0, none⟩) (Kd.R_types HO_7.out BK182.out (by decide)) (fun _ hk => hk.2) (.int .i64 ((qj_ l0_0 x39_2).f0))) (fun _ hk => hk.2) (.int .i64 ((qj_ l0_0 x39_2).f1))) (fun _ hk => hk.2) (.int .i64 ((qj_ l0_0 x39_2).f2))) (fun _ hk => hk.2) (.int .i64 ((qj_ l0_0 x39_2).f3))) (fun _ hk => trivial)⟩, ⟨by (with_reducible repeat first | apply qa_ | apply qb_ | apply blk_alloc); refine qn_ ?_ NB175_182.out _; (with_reducible repeat first | apply qa_ | apply qb_ | apply blk_alloc); refine qn_ ?_ NB175_182.out _; (with_reducible repeat first | apply qa_ | apply qb_ | apply blk_alloc); refine qn_ ?_ NB175_182.out _; (with_reducible repeat first | apply qa_ | apply qb_ | apply blk_alloc); refine qn_ ?_ NB175_182.out _; (with_reducible repeat first | apply qa_ | apply qb_ | apply blk_alloc); exact BK175.out⟩, ⟨by (with_reducible repeat first | apply qa_ | apply qb_ | apply blk_alloc); refine qn_ ?_ NB176_182.out _; (with_reducible repeat first | apply qa_ | apply qb_ | apply blk_alloc); refine qn_ ?_ NB176_182.out _; (with_reducible repeat first | apply qa_ | apply qb_ | apply blk_alloc); refine qn_ ?_ NB176_182.out _; (with_reducible repeat first | apply qa_ | apply qb_ | apply blk_alloc); refine qn_ ?_ NB176_182.out _; (with_reducible repeat first | apply qa_ | apply qb_ | apply blk_alloc); exact BK176.out⟩, ⟨by (with_reducible repeat first | apply qa_ | apply qb_ | apply blk_alloc); refine qn_ ?_ NB177_182.out _; (with_reducible repeat first | apply qa_ | apply qb_ | apply blk_alloc); refine qn_ ?_ NB177_182.out _; (with_reducible repeat first | apply qa_ | apply qb_ | apply blk_alloc); refine qn_ ?_ NB177_182.out _; (with_reducible repeat first | apply qa_ | apply qb_ | apply blk_alloc); refine qn_ ?_ NB177_182.out _; (with_reducible repeat first | apply qa_ | apply qb_ | apply blk_alloc); exact BK177.out⟩, ⟨by (with_reducible repeat first | apply qa_ | apply qb_ | apply blk_alloc); refine qn_ ?_ NB180_182.out _; (with_reducible repeat first | apply qa_ | apply qb_ | apply blk_alloc); refine qn_ ?_ NB180_182.out _; (with_reducible repeat first | apply qa_ | apply qb_ | apply blk_alloc); refine qn_ ?_ NB180_182.out _; (with_reducible repeat first | apply qa_ | apply qb_ | apply blk_alloc); refine qn_ ?_ NB180_182.out _; (with_reducible repeat first | apply qa_ | apply qb_ | apply blk_alloc); exact BK180.out⟩, ⟨by (with_reducible repeat first | apply qa_ | apply qb_ | apply blk_alloc); refine qA_ (cs := #[.int .i64 ((qj_ l0_0 x39_2).f0), .int .i64 ((qj_ l0_0 x39_2).f1), .int .i64 ((qj_ l0_0 x39_2).f2), .int .i64 0]) ?_ 3 _ rfl; (with_reducible repeat first | apply qa_ | apply qb_ | apply blk_alloc); refine qA_ (cs := #[.int .i64 ((qj_ l0_0 x39_2).f0), .int .i64 ((qj_ l0_0 x39_2).f1), .int .i64 0, .int .i64 0]) ?_ 2 _ rfl; (with_reducible repeat first | apply qa_ | apply qb_ | apply blk_alloc); refine qA_ (cs := #[.int .i64 ((qj_ l0_0 x39_2).f0), .int .i64 0, .int .i64 0, .int .i64 0]) ?_ 1 _ rfl; (with_reducible repeat first | apply qa_ | apply qb_ | apply blk_alloc); refine qA_ (cs := #[.int .i64 0, .int .i64 0, .int .i64 0, .int .i64 0]) ?_ 0 _ rfl; (with_reducible repeat first | apply qa_ | apply qb_ | apply blk_alloc); exact BK182.out⟩, ⟨by repeat (first | (with_reducible first | exact HB.out | apply qh_ | apply qc_ | apply qf_ | refine qk_ ?_ (by assumption)) | exact HB.out)⟩⟩
                   ·replace c121 := Bool.eq_false_iff.mpr c121
                    subst c121
                    have H1 : (if 0 ≤ ((qj_ l0_0 x39_2).f3) then (if ((qj_ l0_0 x39_2).f3) < (x7_2.length : Int) then (qC_.j2 k2 x7_2 (rdOf false x7_2 ((qj_ l0_0 x39_2).f3)) l0_0 (l0_0.length : Int) x39_2 a1_0 a1_1 a1_2 a1_3) else (none)) else (none)) = some (r1, r2, r3) := by rw [if_neg (show ¬ (false = true) by decide)] at H; exact H
                    clear H
                    have H := H1
                    clear H1
                    by_cases c128 : 0 ≤ ((qj_ l0_0 x39_2).f3)
                    ·rw [if_pos c128] at H
                     have c128b0 : decide (0 ≤ ((qj_ l0_0 x39_2).f3)) = true := decide_eq_true c128
                     clear c128
                     by_cases c129 : ((qj_ l0_0 x39_2).f3) < (x7_2.length : Int)
                     ·rw [if_pos c129] at H
                      have c129b0 : decide (((qj_ l0_0 x39_2).f3) < (x7_2.length : Int)) = true := decide_eq_true c129
                      clear c129
                      have H' := Aside0.mk H
                      clear H
                      have hcz134_0 := qg_ BK182 0 (.int .i64 0) rfl
                      have hcz134_1 := qg_ BK182 1 (.int .i64 0) rfl
                      have hcz134_2 := qg_ BK182 2 (.int .i64 0) rfl
                      have hcz134_3 := qg_ BK182 3 (.int .i64 0) rfl
                      have hfz134_0 := qd_ BK182 0
                      have hfz134_1 := qd_ BK182 1
                      have hfz134_2 := qd_ BK182 2
                      have hfz134_3 := qd_ BK182 3
                      obtain ⟨Ao135, co135, eo135⟩ := Kd.R_slice HO_7.out
                      subst eo135
                      have p186 : 0 ≤ (((qj_ l0_0 x39_2).f2) : Int) := of_decide_eq_true (by assumption)
                      have q186 : ((qj_ l0_0 x39_2).f2) < (x7_2.length : Int) := of_decide_eq_true (by assumption)
                      obtain ⟨ad186, e186, hx186_0⟩ := Kd.at_bool (Kd.R_reads' HO_7.out).2.2 ((qj_ l0_0 x39_2).f2) p186 q186
                      (try rw [← Nbq120.out] at hx186_0)
                      cases e186
                      have hn186_0 : ad186.block ≠ gb182 := Kd.own_blk (Kd.R_ne HO_7.out BK182.out (by decide))
                      have hn186_1 : ad186.block ≠ gb182 := Kd.own_blk (Kd.R_ne HO_7.out BK182.out (by decide))
                      have hn186_2 : ad186.block ≠ gb182 := Kd.own_blk (Kd.R_ne HO_7.out BK182.out (by decide))
                      have hn186_3 : ad186.block ≠ gb182 := Kd.own_blk (Kd.R_ne HO_7.out BK182.out (by decide))
                      replace hx186_0 := (cell_far (p := ⟨gb182, 0, none⟩) (by first | (rw [add_block]; exact hn186_0) | (show (Addr.add _ _).block ≠ _; rw [add_block]; exact hn186_0) | exact hn186_0) (.int .i64 ((qj_ l0_0 x39_2).f0))).trans hx186_0
                      replace hx186_0 := (cell_far (p := ⟨gb182, 1, none⟩) (by first | (rw [add_block]; exact hn186_1) | (show (Addr.add _ _).block ≠ _; rw [add_block]; exact hn186_1) | exact hn186_1) (.int .i64 ((qj_ l0_0 x39_2).f1))).trans hx186_0
                      replace hx186_0 := (cell_far (p := ⟨gb182, 2, none⟩) (by first | (rw [add_block]; exact hn186_2) | (show (Addr.add _ _).block ≠ _; rw [add_block]; exact hn186_2) | exact hn186_2) (.int .i64 ((qj_ l0_0 x39_2).f2))).trans hx186_0
                      replace hx186_0 := (cell_far (p := ⟨gb182, 3, none⟩) (by first | (rw [add_block]; exact hn186_3) | (show (Addr.add _ _).block ≠ _; rw [add_block]; exact hn186_3) | exact hn186_3) (.int .i64 ((qj_ l0_0 x39_2).f3))).trans hx186_0
                      clear hn186_0
                      clear hn186_1
                      clear hn186_2
                      clear hn186_3
                      replace p186 := eq_true p186
                      replace q186 := eq_true q186
                      have p187 : 0 ≤ (((qj_ l0_0 x39_2).f3) : Int) := of_decide_eq_true (by assumption)
                      have q187 : ((qj_ l0_0 x39_2).f3) < (x7_2.length : Int) := of_decide_eq_true (by assumption)
                      obtain ⟨ad187, e187, hx187_0⟩ := Kd.at_bool (Kd.R_reads' HO_7.out).2.2 ((qj_ l0_0 x39_2).f3) p187 q187
                      (try rw [← Nbq120.out] at hx187_0)
                      obtain rfl : ad186 = ad187 := (by injection e187)
                      have hn187_0 : ad186.block ≠ gb182 := Kd.own_blk (Kd.R_ne HO_7.out BK182.out (by decide))
                      have hn187_1 : ad186.block ≠ gb182 := Kd.own_blk (Kd.R_ne HO_7.out BK182.out (by decide))
                      have hn187_2 : ad186.block ≠ gb182 := Kd.own_blk (Kd.R_ne HO_7.out BK182.out (by decide))
                      have hn187_3 : ad186.block ≠ gb182 := Kd.own_blk (Kd.R_ne HO_7.out BK182.out (by decide))
                      replace hx187_0 := (cell_far (p := ⟨gb182, 0, none⟩) (by first | (rw [add_block]; exact hn187_0) | (show (Addr.add _ _).block ≠ _; rw [add_block]; exact hn187_0) | exact hn187_0) (.int .i64 ((qj_ l0_0 x39_2).f0))).trans hx187_0
                      replace hx187_0 := (cell_far (p := ⟨gb182, 1, none⟩) (by first | (rw [add_block]; exact hn187_1) | (show (Addr.add _ _).block ≠ _; rw [add_block]; exact hn187_1) | exact hn187_1) (.int .i64 ((qj_ l0_0 x39_2).f1))).trans hx187_0
                      replace hx187_0 := (cell_far (p := ⟨gb182, 2, none⟩) (by first | (rw [add_block]; exact hn187_2) | (show (Addr.add _ _).block ≠ _; rw [add_block]; exact hn187_2) | exact hn187_2) (.int .i64 ((qj_ l0_0 x39_2).f2))).trans hx187_0
                      replace hx187_0 := (cell_far (p := ⟨gb182, 3, none⟩) (by first | (rw [add_block]; exact hn187_3) | (show (Addr.add _ _).block ≠ _; rw [add_block]; exact hn187_3) | exact hn187_3) (.int .i64 ((qj_ l0_0 x39_2).f3))).trans hx187_0
                      clear hn187_0
                      clear hn187_1
                      clear hn187_2
                      clear hn187_3
                      replace p187 := eq_true p187
                      replace q187 := eq_true q187
                      go_wp2
                      go_meet
                      case rel => exact ⟨_, (rdOf false x7_2 ((qj_ l0_0 x39_2).f3)), (by first | rfl | (simp [*]; done)), H', ⟨by have := HJ4.out; have := HK2.out; first | omega | exact Nat.le_refl _⟩, ⟨by (with_reducible repeat first | apply Kd.R_alloc | apply Kd.R_drewN | apply Kd.R_drew); exact Kd.R_mono (Kd.R_far (p := ⟨gb182, 3, none⟩) (Kd.R_far (p := ⟨gb182, 2, none⟩) (Kd.R_far (p := ⟨gb182, 1, none⟩) (Kd.R_far (p := ⟨gb182, 0, none⟩) (Kd.R_types HO_7.out BK182.out (by decide)) (fun _ hk => hk.2) (.int .i64 ((qj_ l0_0 x39_2).f0))) (fun _ hk => hk.2) (.int .i64 ((qj_ l0_0 x39_2).f1))) (fun _ hk => hk.2) (.int .i64 ((qj_ l0_0 x39_2).f2))) (fun _ hk => hk.2) (.int .i64 ((qj_ l0_0 x39_2).f3))) (fun _ hk => trivial)⟩, ⟨by (with_reducible repeat first | apply qa_ | apply qb_ | apply blk_alloc); refine qn_ ?_ NB175_182.out _; (with_reducible repeat first | apply qa_ | apply qb_ | apply blk_alloc); refine qn_ ?_ NB175_182.out _; (with_reducible repeat first | apply qa_ | apply qb_ | apply blk_alloc); refine qn_ ?_ NB175_182.out _; (with_reducible repeat first | apply qa_ | apply qb_ | apply blk_alloc); refine qn_ ?_ NB175_182.out _; (with_reducible repeat first | apply qa_ | apply qb_ | apply blk_alloc); exact BK175.out⟩, ⟨by (with_reducible repeat first | apply qa_ | apply qb_ | apply blk_alloc); refine qn_ ?_ NB176_182.out _; (with_reducible repeat first | apply qa_ | apply qb_ | apply blk_alloc); refine qn_ ?_ NB176_182.out _; (with_reducible repeat first | apply qa_ | apply qb_ | apply blk_alloc); refine qn_ ?_ NB176_182.out _; (with_reducible repeat first | apply qa_ | apply qb_ | apply blk_alloc); refine qn_ ?_ NB176_182.out _; (with_reducible repeat first | apply qa_ | apply qb_ | apply blk_alloc); exact BK176.out⟩, ⟨by (with_reducible repeat first | apply qa_ | apply qb_ | apply blk_alloc); refine qn_ ?_ NB177_182.out _; (with_reducible repeat first | apply qa_ | apply qb_ | apply blk_alloc); refine qn_ ?_ NB177_182.out _; (with_reducible repeat first | apply qa_ | apply qb_ | apply blk_alloc); refine qn_ ?_ NB177_182.out _; (with_reducible repeat first | apply qa_ | apply qb_ | apply blk_alloc); refine qn_ ?_ NB177_182.out _; (with_reducible repeat first | apply qa_ | apply qb_ | apply blk_alloc); exact BK177.out⟩, ⟨by (with_reducible repeat first | apply qa_ | apply qb_ | apply blk_alloc); refine qn_ ?_ NB180_182.out _; (with_reducible repeat first | apply qa_ | apply qb_ | apply blk_alloc); refine qn_ ?_ NB180_182.out _; (with_reducible repeat first | apply qa_ | apply qb_ | apply blk_alloc); refine qn_ ?_ NB180_182.out _; (with_reducible repeat first | apply qa_ | apply qb_ | apply blk_alloc); refine qn_ ?_ NB180_182.out _; (with_reducible repeat first | apply qa_ | apply qb_ | apply blk_alloc); exact BK180.out⟩, ⟨by (with_reducible repeat first | apply qa_ | apply qb_ | apply blk_alloc); refine qA_ (cs := #[.int .i64 ((qj_ l0_0 x39_2).f0), .int .i64 ((qj_ l0_0 x39_2).f1), .int .i64 ((qj_ l0_0 x39_2).f2), .int .i64 0]) ?_ 3 _ rfl; (with_reducible repeat first | apply qa_ | apply qb_ | apply blk_alloc); refine qA_ (cs := #[.int .i64 ((qj_ l0_0 x39_2).f0), .int .i64 ((qj_ l0_0 x39_2).f1), .int .i64 0, .int .i64 0]) ?_ 2 _ rfl; (with_reducible repeat first | apply qa_ | apply qb_ | apply blk_alloc); refine qA_ (cs := #[.int .i64 ((qj_ l0_0 x39_2).f0), .int .i64 0, .int .i64 0, .int .i64 0]) ?_ 1 _ rfl; (with_reducible repeat first | apply qa_ | apply qb_ | apply blk_alloc); refine qA_ (cs := #[.int .i64 0, .int .i64 0, .int .i64 0, .int .i64 0]) ?_ 0 _ rfl; (with_reducible repeat first | apply qa_ | apply qb_ | apply blk_alloc); exact BK182.out⟩, ⟨by repeat (first | (with_reducible first | exact HB.out | apply qh_ | apply qc_ | apply qf_ | refine qk_ ?_ (by assumption)) | exact HB.out)⟩⟩
                     ·rw [if_neg c129] at H
                      exact absurd H (by simp)
                    ·rw [if_neg c128] at H
                     exact absurd H (by simp)
                  ·rw [if_neg c119] at H
                   exact absurd H (by simp)
                 ·rw [if_neg c118] at H
                  exact absurd H (by simp)
          case rest =>
           clear HC49
           obtain ⟨kq, x10_48, rfl, HA, HJ48, HO_7, BK175, BK176, BK177, BK180, BK182, HB⟩ := hcut
           cases kq with
           | zero => exact absurd HA.out (by simp [qC_.j2])
           | succ kj48 =>
            have H := HA.out
            clear HA
            simp only [qC_.j2] at H
            by_cases c136 : x7_2.length < 140737488355328
            ·rw [if_pos c136] at H
             have LMc136 := Aside0.mk c136
             clear c136
             obtain ⟨y188, hy188⟩ : ∃ y_ : List Bool, y_ = (x7_2 ++ [x10_48]) := ⟨_, rfl⟩
             replace H : (qC_.l0 kj48 y188 l0_0 (l0_0.length : Int) (wrap64 (x39_2 + 1)) a1_0 a1_1 a1_2 a1_3) = some (r1, r2, r3) := by first | (rw [hy188]; with_reducible exact H) | (have H2_ := (Option.bind_some _ _).symm.trans H; rw [hy188]; with_reducible exact H2_) | (have H2_ := (Option.bind_some _ _).symm.trans H; with_reducible exact H2_) | with_reducible exact H | (rw [hy188]; exact H) | exact H
             have Ny188 := Aside0.mk hy188
             clear hy188
             have H' := Aside0.mk H
             clear H
             go_wp2_with (first | ((with_reducible refine gate_builtin (b := .append) (xs := #[.tmp 103, .tmp 105]) rfl ?_); at_builtin; refine Kd.R_append Kd.bool (w0 := w) w.heap.size rfl (.tmp 103) (.tmp 105) 53 4 (.bool false) 1 rfl Tryd.underlying53 info4 rfl (by decide) (by omega) u7 x7_2 x10_48 [.bool x10_48] (fun _ => True) (fun _ => False) rfl rfl ?aP (fun _ hk => hk.elim) ?aF ?aO ?aB ?aS ?aL ?_; (case aP => exact rfl); (case aB => exact (by repeat (first | (with_reducible first | exact HB.out | apply qh_ | apply qc_ | apply qf_ | refine qk_ ?_ (by assumption)) | exact HB.out))); (case aF => exact (fun _ _ => trivial)); (case aO => exact (by (with_reducible repeat first | apply Kd.R_alloc | apply Kd.R_drewN | apply Kd.R_drew); exact HO_7.out)); (case aS => exact (qv_ (by repeat (first | (with_reducible first | exact HB.out | apply qh_ | apply qc_ | apply qf_ | refine qk_ ?_ (by assumption)) | exact HB.out)))); (case aL => have := LMc136.out; omega); intro v189 w137 ho hb hg hat; rw [← Ny188.out] at ho; replace BK175 := Aside0.mk (blk_grownA BK175 (by (with_reducible repeat first | apply qa_ | apply qb_ | apply blk_alloc); exact BK175.out) hg (Kd.R_ne HO_7.out BK175.out (by decide))); replace BK176 := Aside0.mk (blk_grownA BK176 (by (with_reducible repeat first | apply qa_ | apply qb_ | apply blk_alloc); exact BK176.out) hg (Kd.R_ne HO_7.out BK176.out (by decide))); replace BK177 := Aside0.mk (blk_grownA BK177 (by (with_reducible repeat first | apply qa_ | apply qb_ | apply blk_alloc); exact BK177.out) hg (Kd.R_ne HO_7.out BK177.out (by decide))); replace BK180 := Aside0.mk (blk_grownA BK180 (by (with_reducible repeat first | apply qa_ | apply qb_ | apply blk_alloc); exact BK180.out) hg (Kd.R_ne HO_7.out BK180.out (by decide))); replace BK182 := Aside0.mk (blk_grownA BK182 (by (with_reducible repeat first | apply qa_ | apply qb_ | apply blk_alloc); exact BK182.out) hg (Kd.R_ne HO_7.out BK182.out (by decide))); replace HB := Aside0.mk (hb); have HO190 := Aside0.mk (ho); clear HO_7; clear ho hb hg hat))
             go_roundg kj48
             case measure => have := HJ4.out; have := HK2.out; have := HJ48.out; omega
             case rel => exact ⟨(y188), (wrap64 (x39_2 + 1)), (by first | rfl | (simp [*]; done)), H', ⟨by have := HJ4.out; have := HK2.out; have := HJ48.out; omega⟩, ⟨by (with_reducible repeat first | apply Kd.R_alloc | apply Kd.R_drewN | apply Kd.R_drew); exact HO190.out⟩, ⟨by (with_reducible repeat first | apply qa_ | apply qb_ | apply blk_alloc); exact BK175.out⟩, ⟨by (with_reducible repeat first | apply qa_ | apply qb_ | apply blk_alloc); exact BK176.out⟩, ⟨by (with_reducible repeat first | apply qa_ | apply qb_ | apply blk_alloc); exact BK177.out⟩, ⟨by (with_reducible repeat first | apply qa_ | apply qb_ | apply blk_alloc); exact BK180.out⟩, ⟨by repeat (first | (with_reducible first | exact HB.out | apply qh_ | apply qc_ | apply qf_ | refine qk_ ?_ (by assumption)) | exact HB.out)⟩⟩
            ·rw [if_neg c136] at H
             exact absurd H (by simp)
         ·rw [if_neg c48] at H
          exact absurd H (by simp)
        ·rw [if_neg c47] at H
         exact absurd H (by simp)
       ·rw [if_neg c46] at H
        have c46b0 : decide (x39_2 < (l0_0.length : Int)) = false := decide_eq_false c46
        clear c46
        obtain ⟨ji138, hji138⟩ : ∃ j_ : Int, (wrap64 ((x7_2.length : Int) - 1)) = j_ := ⟨_, rfl⟩
        replace H : (if 0 ≤ (ji138) then (if (ji138) < (x7_2.length : Int) then (some (rdOf false x7_2 (ji138), 0, 0)) else (none)) else (none)) = some (r1, r2, r3) := by first | (rw [hji138] at H; exact H) | (simp only [hji138] at H ⊢; exact H)
        have hji138w : (IntKind.i64.wrap ((x7_2.length : Int) - 1)) = ji138 := (i64_w _).trans hji138
        by_cases c139 : 0 ≤ (ji138)
        ·rw [if_pos c139] at H
         have c139b0 : decide (0 ≤ (ji138)) = true := decide_eq_true c139
         clear c139
         by_cases c140 : (ji138) < (x7_2.length : Int)
         ·rw [if_pos c140] at H
          have c140b0 : decide ((ji138) < (x7_2.length : Int)) = true := decide_eq_true c140
          clear c140
          simp only [Option.some.injEq, Prod.mk.injEq] at H
          obtain ⟨rfl, rfl, rfl⟩ := H
          obtain ⟨Ao141, co141, eo141⟩ := Kd.R_slice HO_7.out
          subst eo141
          have p191 : 0 ≤ ((ji138) : Int) := of_decide_eq_true (by assumption)
          have q191 : (ji138) < (x7_2.length : Int) := of_decide_eq_true (by assumption)
          obtain ⟨ad191, e191, hx191_0⟩ := Kd.at_bool (Kd.R_reads' HO_7.out).2.2 (ji138) p191 q191
          cases e191
          replace p191 := eq_true p191
          replace q191 := eq_true q191
          have hcz145_0 := qg_ BK177 0 (.int .i64 0) rfl
          have hcz145_1 := qg_ BK177 1 (.int .i64 0) rfl
          have hfz145_0 := qd_ BK177 0
          have hfz145_1 := qd_ BK177 1
          go_wp2
          refine bodyPost_ret (results_tc rfl _ _ gb177 28 #[.int .i64 0, .int .i64 0] (0, 0) _ rfl (by (with_reducible repeat first | apply qa_ | apply qb_ | apply blk_alloc); refine qA_ (cs := #[.int .i64 0, .int .i64 0]) ?_ 1 _ rfl; (with_reducible repeat first | apply qa_ | apply qb_ | apply blk_alloc); refine qA_ (cs := #[.int .i64 0, .int .i64 0]) ?_ 0 _ rfl; (with_reducible repeat first | apply qa_ | apply qb_ | apply blk_alloc); exact BK177.out) Tryd.underlying28 rfl (by kernel_rfl)) rfl ?_
          exact ⟨by first | rfl | (simp [errW_none, errW_some] <;> rfl) | (simp only [← hji138]; first | rfl | (simp [errW_none, errW_some] <;> rfl)) | (simp [*, errW_none, errW_some] <;> rfl), by repeat (first | (with_reducible first | exact HB.out | apply qh_ | apply qc_ | apply qf_ | refine qk_ ?_ (by assumption)) | exact HB.out)⟩
         ·rw [if_neg c140] at H
          exact absurd H (by simp)
        ·rw [if_neg c139] at H
         exact absurd H (by simp)
 ·rw [if_neg c4] at H
  have c4b0 : (t178 == 0 && (t179 == 0)) = false := by simpa using c4
  have c4b1 : (!(t178 == 0) || (!(t179 == 0))) = true := by have h_ := congrArg not (show (t178 == 0 && (t179 == 0)) = false by simpa using c4); simpa [Bool.not_and] using h_
  (first | rw [c4b0] | rw [c4b1] | (simp only [i64_w, i32_w]; rw [c4b0]) | skip)
  clear c4
  simp only [Option.some.injEq, Prod.mk.injEq] at H
  obtain ⟨rfl, rfl, rfl⟩ := H
  try go_wp2
  have n0_ : Aside0 (((w13.setCell ⟨gb180, 0, none⟩ (.int .i64 t178)).setCell ⟨gb180, 1, none⟩ (.int .i64 t179)).heap[gb175]? = some (.cells #[.slice A0_0 l0_0.length c0_0] 24 (0, 0))) := ⟨by (with_reducible repeat first | apply qa_ | apply qb_ | apply blk_alloc); refine qn_ ?_ NB175_180.out _; (with_reducible repeat first | apply qa_ | apply qb_ | apply blk_alloc); refine qn_ ?_ NB175_180.out _; (with_reducible repeat first | apply qa_ | apply qb_ | apply blk_alloc); exact BK175.out⟩
  have n1_ : Aside0 (((w13.setCell ⟨gb180, 0, none⟩ (.int .i64 t178)).setCell ⟨gb180, 1, none⟩ (.int .i64 t179)).heap[gb176]? = some (.cells #[.int .i64 a1_0, .bool a1_1, .bool a1_2, .int .i64 a1_3] 26 (0, 0))) := ⟨by (with_reducible repeat first | apply qa_ | apply qb_ | apply blk_alloc); refine qn_ ?_ NB176_180.out _; (with_reducible repeat first | apply qa_ | apply qb_ | apply blk_alloc); refine qn_ ?_ NB176_180.out _; (with_reducible repeat first | apply qa_ | apply qb_ | apply blk_alloc); exact BK176.out⟩
  have n2_ : Aside0 (((w13.setCell ⟨gb180, 0, none⟩ (.int .i64 t178)).setCell ⟨gb180, 1, none⟩ (.int .i64 t179)).heap[gb177]? = some (.cells #[.int .i64 0, .int .i64 0] 28 (0, 0))) := ⟨by (with_reducible repeat first | apply qa_ | apply qb_ | apply blk_alloc); refine qn_ ?_ NB177_180.out _; (with_reducible repeat first | apply qa_ | apply qb_ | apply blk_alloc); refine qn_ ?_ NB177_180.out _; (with_reducible repeat first | apply qa_ | apply qb_ | apply blk_alloc); exact BK177.out⟩
  have n3_ : Aside0 (((w13.setCell ⟨gb180, 0, none⟩ (.int .i64 t178)).setCell ⟨gb180, 1, none⟩ (.int .i64 t179)).heap[gb180]? = some (.cells #[.int .i64 t178, .int .i64 t179] 28 (0, 0))) := ⟨by (with_reducible repeat first | apply qa_ | apply qb_ | apply blk_alloc); refine qA_ (cs := #[.int .i64 t178, .int .i64 0]) ?_ 1 _ rfl; (with_reducible repeat first | apply qa_ | apply qb_ | apply blk_alloc); refine qA_ (cs := #[.int .i64 0, .int .i64 0]) ?_ 0 _ rfl; (with_reducible repeat first | apply qa_ | apply qb_ | apply blk_alloc); exact BK180.out⟩
  have n4_ : Aside0 (Below w.heap.size w ((w13.setCell ⟨gb180, 0, none⟩ (.int .i64 t178)).setCell ⟨gb180, 1, none⟩ (.int .i64 t179))) := ⟨by repeat (first | (with_reducible first | exact HB.out | apply qh_ | apply qc_ | apply qf_ | refine qk_ ?_ (by assumption)) | exact HB.out)⟩
  (try clear BK175)
  (try clear BK176)
  (try clear BK177)
  (try clear BK180)
  (try clear HB)
  generalize ((w13.setCell ⟨gb180, 0, none⟩ (.int .i64 t178)).setCell ⟨gb180, 1, none⟩ (.int .i64 t179)) = w158 at n0_ n1_ n2_ n3_ n4_ ⊢
  have BK175 := n0_
  have BK176 := n1_
  have BK177 := n2_
  have BK180 := n3_
  have HB := n4_
  clear n0_ n1_ n2_ n3_ n4_
  replace BK175 := Aside0.mk (qb_ BK175.out)
  replace BK176 := Aside0.mk (qb_ BK176.out)
  replace BK177 := Aside0.mk (qb_ BK177.out)
  replace BK180 := Aside0.mk (qb_ BK180.out)
  replace HB := Aside0.mk (qf_ HB.out)
  refine start_ (n := 3) (S := fun w' => w'.cell? ⟨gb180, 0, none⟩ = some (.int .i64 t178) ∧ w'.cell? ⟨gb180, 1, none⟩ = some (.int .i64 t179)) (ds := []) #[false, false, false] (by kernel_rfl) rfl rfl ⟨(qm_ BK180.out 0).trans rfl, (qm_ BK180.out 1).trans rfl⟩ (fun hHeld => ?_)
  generalize w158.drew = w159 at BK175 BK176 BK177 BK180 HB hHeld ⊢
  refine pure_ (i := 1) (N := some 4) (v := ?_) (a' := ?_) #[false, true, false] rfl rfl (by kernel_rfl) (fun _ _ _ h => h) (Or.inl ⟨by rfl, ?_⟩) ?_ ?_
  rotate_left
  ·intro w'
   go_simp
   with_reducible rfl
  rotate_left
  ·simp only [Act.put, List.setIfInBounds_toArray, List.set_cons_zero, List.set_cons_succ, i64_w, i32_w]
   rfl
  refine take_ (i := 0) (N := some 16) (v := ?_) (a' := ?_) #[true, true, false] rfl rfl (by kernel_rfl) (fun _ _ _ h => h) (Or.inl ⟨by rfl, ?_⟩) hHeld ?_ ?_
  rotate_left
  ·rintro w' ⟨s0, s1⟩
   go_simp
   with_reducible rfl
  rotate_left
  ·simp only [Act.put, List.setIfInBounds_toArray, List.set_cons_zero, List.set_cons_succ, i64_w, i32_w]
   rfl
  refine one_ (i := 2) (N := none) #[true, true, true] rfl rfl (by kernel_rfl) (by decide) (fun K hK => ?_)
  have hs160 : w159.cell? ⟨gb177, 0, none⟩ = some (.int .i64 0) := (qm_ BK177.out 0).trans rfl
  have hfs160 := qd_ BK177 0
  have hns160_0 := NB175_177.out
  have hns160_1 := NB176_177.out
  have hns160_3 := NB180_177.out
  have hms160_0 := NB177_175.out
  have hms160_1 := NB177_176.out
  have hms160_3 := NB177_180.out
  have hs161 : w159.cell? ⟨gb177, 1, none⟩ = some (.int .i64 0) := (qm_ BK177.out 1).trans rfl
  have hfs161 := qd_ BK177 1
  have hns161_0 := NB175_177.out
  have hns161_1 := NB176_177.out
  have hns161_3 := NB180_177.out
  have hms161_0 := NB177_175.out
  have hms161_1 := NB177_176.out
  have hms161_3 := NB177_180.out
  refine skip_ (w1 := ?_) (by rfl) rfl ?_ ?_
  rotate_left
  ·go_simp
   rfl
  refine hK.out _ _ ⟨((cell_far (p := ⟨gb177, _, none⟩) NB180_177.out _).trans (((cell_far (p := ⟨gb177, _, none⟩) NB180_177.out _).trans (hHeld.1)))), ((cell_far (p := ⟨gb177, _, none⟩) NB180_177.out _).trans (((cell_far (p := ⟨gb177, _, none⟩) NB180_177.out _).trans (hHeld.2))))⟩ (fun hHeld => ?_)
  clear hK K
  refine done_ (by kernel_rfl) ?_
  try go_wp2
  refine bodyPost_ret (results_tc rfl _ _ gb177 28 #[.int .i64 t178, .int .i64 t179] (0, 0) _ rfl (by (with_reducible repeat first | apply qa_ | apply qb_ | apply blk_alloc); refine qA_ (cs := #[.int .i64 t178, .int .i64 0]) ?_ 1 _ rfl; (with_reducible repeat first | apply qa_ | apply qb_ | apply blk_alloc); refine qA_ (cs := #[.int .i64 0, .int .i64 0]) ?_ 0 _ rfl; (with_reducible repeat first | apply qa_ | apply qb_ | apply blk_alloc); exact BK177.out) Tryd.underlying28 rfl (by kernel_rfl)) rfl ?_
  exact ⟨by first | rfl | (simp [*] <;> rfl), by repeat (first | (with_reducible first | exact HB.out | apply qh_ | apply qc_ | apply qf_ | refine qk_ ?_ (by assumption)) | exact HB.out)⟩

end Go.Proofs.YtblkkhddefnkpaaDoor.PPo
