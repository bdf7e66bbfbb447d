import Derived.Test.YtbkdaofddnkaaaaVf
import Derived.Laws.CopyOwn
namespace Go.Proofs.Ytbkdaofddnkaaaa.PVo
open Go.RowKit Go.Proofs.YtbkdaofddnkaaaaW.PrintWords Go.Proofs.YtbkdaofddnkaaaaW.PrintLast Go.Proofs.YtbkdaofddnkaaaaW.PrintMore
attribute [local go_sem] max2_int min2_int max_two min_two max_three min_three max_four min_four
attribute [local go_sem high] eqA25
set_option linter.unusedVariables false
set_option linter.unusedSimpArgs false

def lapF (la co : List Int) : Nat → Nat → List Int → List Int
  | 0, _, out => out
  | k + 1, j, out => lapF la co k (j + 1) (if la.getD j 0 = co.getD j 0 then out else out ++ [(j : Int)])
def votes_Lapsed.f (k : Nat) (l0 : List (S35)) (l1 : List Bool) (a2 : Int) : Option (List Int × Int × Int) :=
  (votes_count.f k l0 l1 a2).bind fun b => some (lapF b.1 b.2.1 8 0 [], b.2.2.1, b.2.2.2)
theorem votes_Lapsed.mono : ∀ l0 l1 a2 k, LeO (votes_Lapsed.f k l0 l1 a2) (votes_Lapsed.f (k + 1) l0 l1 a2) := by
  intro l0 l1 a2 k
  unfold votes_Lapsed.f
  exact LeO.bind (votes_count.mono _ _ _ _) (fun _ => LeO.refl _)
theorem ninfo3 : (Try.prog.info? 3).map (fun i => (i.zero, i.size, i.bytes)) = some (some (.int .i64 0), 1, 8) := by kernel_rfl
set_option maxHeartbeats 8000000 in
set_option maxRecDepth 100000 in
theorem votes_Lapsed.calls (k : Nat) (A0 : Option Addr) (c0 : Nat) (l0 : List (S35)) (A1 : Option Addr) (c1 : Nat) (l1 : List Bool) (a2 : Int) (r1 : List Int) (r2 : Int) (r3 : Int) (w : World) (hr0 : Kd.C k35 w A0 l0.length l0) (hc0 : l0.length ≤ c0) (hr1 : Kd.C Kd.bool w A1 l1.length l1) (hc1 : l1.length ≤ c1) (h : votes_Lapsed.f k l0 l1 a2 = some (r1, r2, r3)) :
    Calls Try.prog 16 #[.slice A0 l0.length c0, .slice A1 l1.length c1, .int .i64 a2] w fun e w' => ∃ v0_ : Value, e = .returned (.tuple #[v0_, .agg #[.int .i64 r2, .int .i64 r3]]) ∧ Kd.R (Kd.int .i64) 3 w' w.heap.size (fun _ => True) v0_ r1 ∧ Below w.heap.size w w' := by
  unfold votes_Lapsed.f at h
  obtain ⟨⟨la, co, f1, f2⟩, hv, H⟩ := Option.bind_eq_some_iff.mp h
  clear h
  dsimp only at H
  obtain ⟨l1_, l2_⟩ := votes_count.len hv
  have L1 := Aside0.mk l1_
  have L2 := Aside0.mk l2_
  clear l1_ l2_
  have hu25 := Try.underlying25
  have hu69 := Try.underlying69
  have hu67 := Try.underlying67
  have HR0 := Aside0.mk hr0
  have HC0 := Aside0.mk hc0
  have HR1 := Aside0.mk hr1
  have HC1 := Aside0.mk hc1
  clear hr0 hc0 hr1 hc1
  have HB := Aside0.mk (Below.refl w.heap.size w)
  have A2 := Aside0.mk hv
  clear hv
  obtain ⟨res, hF⟩ : ∃ p : List Int, lapF la co 8 0 [] = p := ⟨_, rfl⟩
  rw [hF] at H
  have HF0 := Aside0.mk hF
  clear hF
  simp only [Option.some.injEq, Prod.mk.injEq] at H
  obtain ⟨rfl, rfl, rfl⟩ := H
  go_enter Try.func16, Try.ntmps16
  go_wp2_with (first
    | ((with_reducible refine gate_dst (N := 7) rfl ?_); refine box_event ?hg (N := 7) ?hd (cs := #[.int .i64 0, .int .i64 0]) (t := 25) ?hr ?_; (case hd => rfl); (case hg => rfl); (case hr => first | (go_simp; rfl) | kernel_rfl); intro g7 hg w2 hbox hb; have GE7 : Aside0 (w.heap.size ≤ g7) := Aside0.mk (by rw [hg]; exact HB.out.size); have n0_ := Aside0.mk (below_step HB.out hb); have BK7 := Aside0.mk hbox; clear HB; have HB := n0_; clear n0_ hb hbox hg)
    | ((with_reducible refine gate_callee (f := 33) rfl ?_); refine goesL_ (some 17) rfl rfl Try.func33 (by kernel_rfl) rfl #[.slice A0 l0.length c0, .slice A1 l1.length c1, .int .i64 a2] rfl (by (try simp only [List.map_toArray, List.map_cons, List.map_nil]); first | done | rfl) ?_; (refine (votes_count.calls k _ _ l0 _ _ l1 a2 la co f1 f2 _ (Kd.C_below HR0.out HB.out) HC0.out (Kd.C_below HR1.out HB.out) HC1.out A2.out).mono ?_); rintro e w4 ⟨rfl, hb⟩; refine ⟨_, rfl, ?_⟩; have n0_ := Aside0.mk (below_step HB.out hb); have n2_ := Aside0.mk (blk_below BK7.out hb); clear HB BK7; have HB := n0_; have BK7 := n2_; clear n0_ n2_ hb)
    | ((with_reducible refine gate_dst (N := 8) rfl ?_); refine box_event ?hg (N := 8) ?hd (cs := bal z8 z8) (t := 69) ?hr ?_; (case hd => rfl); (case hg => rfl); (case hr => first | (go_simp; rfl) | kernel_rfl); intro g8 hg w3 hbox hb; have NE87 : g8 ≠ g7 := (by rw [hg]; exact Nat.ne_of_gt (blk_lt BK7.out)); have NE78 := Ne.symm NE87; have GE8 : Aside0 (w.heap.size ≤ g8) := Aside0.mk (by rw [hg]; exact HB.out.size); have n0_ := Aside0.mk (below_step HB.out hb); have n2_ := Aside0.mk (blk_below BK7.out hb); have BK8 := Aside0.mk hbox; clear HB BK7; have HB := n0_; have BK7 := n2_; clear n0_ n2_ hb hbox hg)
    | ((with_reducible refine gate_dst (N := 9) rfl ?_); refine box_event ?hg (N := 9) ?hd (cs := #[.int .i64 0, .int .i64 0]) (t := 25) ?hr ?_; (case hd => rfl); (case hg => rfl); (case hr => first | (go_simp; rfl) | kernel_rfl); intro g9 hg w5 hbox hb; have NE97 : g9 ≠ g7 := (by rw [hg]; exact Nat.ne_of_gt (blk_lt BK7.out)); have NE79 := Ne.symm NE97; have NE98 : g9 ≠ g8 := (by rw [hg]; exact Nat.ne_of_gt (blk_lt BK8.out)); have NE89 := Ne.symm NE98; have GE9 : Aside0 (w.heap.size ≤ g9) := Aside0.mk (by rw [hg]; exact HB.out.size); have n0_ := Aside0.mk (below_step HB.out hb); have n2_ := Aside0.mk (blk_below BK7.out hb); have n3_ := Aside0.mk (blk_below BK8.out hb); have BK9 := Aside0.mk hbox; clear HB BK7 BK8; have HB := n0_; have BK7 := n2_; have BK8 := n3_; clear n0_ n2_ n3_ hb hbox hg)
    | ((with_reducible refine gate_storeV (ty := 69) (x := .tmp 8) (y := .tmp 18) rfl ?_); refine store_eventV rfl 69 (.tmp 8) (.tmp 18) rfl g8 (bal la co) rfl rfl 69 (bal z8 z8) BK8.out (by rw [bal_size, L1.out, L2.out]; kernel_rfl) (by rw [bal_size, bal_size, L1.out, L2.out]; rfl) (bal_one la co) ?_; intro w6 hn ho hb; have n0_ := Aside0.mk (hb _ _ GE8.out HB.out); have n2_ := Aside0.mk ((ho _ NE78).trans BK7.out); have n4_ := Aside0.mk ((ho _ NE98).trans BK9.out); have n3_ := Aside0.mk hn; clear HB BK7 BK8 BK9 hn ho hb; have HB := n0_; have BK7 := n2_; have BK8 := n3_; have BK9 := n4_; clear n0_ n2_ n3_ n4_)
    | ((with_reducible refine gate_storeV (ty := 25) (x := .tmp 9) (y := .tmp 19) rfl ?_); refine store_eventV rfl 25 (.tmp 9) (.tmp 19) rfl g9 #[.int .i64 f1, .int .i64 f2] rfl rfl 25 #[.int .i64 0, .int .i64 0] BK9.out (two_size f1 f2) rfl (two_one f1 f2) ?_; intro w7 hn ho hb; have n0_ := Aside0.mk (hb _ _ GE9.out HB.out); have n2_ := Aside0.mk ((ho _ NE79).trans BK7.out); have n3_ := Aside0.mk ((ho _ NE89).trans BK8.out); have n4_ := Aside0.mk hn; clear HB BK7 BK8 BK9 hn ho hb; have HB := n0_; have BK7 := n2_; have BK8 := n3_; have BK9 := n4_; clear n0_ n2_ n3_ n4_; have hc90 := (blk_cell BK9.out 0).trans rfl; have hc91 := (blk_cell BK9.out 1).trans rfl; have hf90 := blk_frozen BK9.out 0; have hf91 := blk_frozen BK9.out 1; have xc0 := (blk_cell BK7.out 0).trans rfl; have xc1 := (blk_cell BK7.out 1).trans rfl; have xf0 := blk_frozen BK7.out 0; have xf1 := blk_frozen BK7.out 1)
    | ((with_reducible refine gate_dst (N := 21) rfl ?_); refine wpList_load_part rfl 67 (.tmp 20) rfl g8 0 8 rfl 69 (bal la co) (0, 0) _ BK8.out Try.underlying67 rfl (by kernel_rfl) (by rw [bal_size, L1.out, L2.out]; decide) ?_; rw [bal_first L1.out L2.out])
    | fail)
  go_loopg [10, 22] 8 (fun kq v10 v22 w' => ∃ (j : Nat) (acc : List Int) (u : Value), v22 = .int .i64 (j : Int) ∧ v10 = u ∧ Aside0 (j + kq = 8) ∧ Aside0 (acc.length ≤ j) ∧ Aside0 (lapF la co kq j acc = res) ∧ Aside0 (Kd.R (Kd.int .i64) 3 w' w.heap.size (fun _ => True) u acc) ∧ Aside0 (w'.heap[g7]? = some (.cells #[.int .i64 0, .int .i64 0] 25 (0, 0))) ∧ Aside0 (w'.heap[g8]? = some (.cells (bal la co) 69 (0, 0))) ∧ Aside0 (w'.heap[g9]? = some (.cells #[.int .i64 f1, .int .i64 f2] 25 (0, 0))) ∧ Aside0 (Below w.heap.size w w'))
  case atStart => exact ⟨0, [], .slice none 0 0, rfl, rfl, ⟨rfl⟩, ⟨Nat.le_refl _⟩, HF0, ⟨Kd.R_nil _ _ _ _ _⟩, ⟨by (with_reducible repeat (first | refine blk_drewN ?_ _ | refine blk_drew ?_ | refine blk_alloc ?_ _ | refine blk_far ?_ (by assumption) _)); exact BK7.out⟩, ⟨by (with_reducible repeat (first | refine blk_drewN ?_ _ | refine blk_drew ?_ | refine blk_alloc ?_ _ | refine blk_far ?_ (by assumption) _)); exact BK8.out⟩, ⟨by (with_reducible repeat (first | refine blk_drewN ?_ _ | refine blk_drew ?_ | refine blk_alloc ?_ _ | refine blk_far ?_ (by assumption) _)); exact BK9.out⟩, ⟨by repeat (first | (with_reducible first | exact HB.out | apply below_alloc | apply pw_below_drewN | apply below_drew1 | refine below_set ?_ GE7.out | refine below_set ?_ GE8.out | refine below_set ?_ GE9.out) | exact HB.out)⟩⟩
  case round =>
    clear HF0
    obtain ⟨j, acc, u, rfl, rfl, HJ, HL, HF, HO, BK7, BK8, BK9, HB⟩ := hrel
    by_cases x1 : j < 8
    · have x1b : decide ((j : Int) < 8) = true := decide_eq_true (by omega)
      have x1p := eq_true x1
      obtain ⟨kz, hkz⟩ : ∃ kz, gk = kz + 1 := ⟨gk - 1, by have := HJ.out; omega⟩
      obtain ⟨x, HX⟩ : ∃ x : Int, Aside0 (la.getD j 0 = x) := ⟨_, ⟨rfl⟩⟩
      obtain ⟨y, HY⟩ : ∃ y : Int, Aside0 (co.getD j 0 = y) := ⟨_, ⟨rfl⟩⟩
      have hix : ∀ W : World, (Instr.index 67 (.agg (co8 la)) (.int .i64 (j : Int))).run Try.prog W = .ok (.int .i64 x) W := fun W => by rw [← HX.out]; exact run_index8 L1.out j x1 W
      have u1 : wr.cell? ⟨g8, 8 + j, none⟩ = some (.int .i64 y) := by rw [← HY.out]; exact (blk_cell BK8.out (8 + j)).trans (bal_get2 L1.out L2.out x1)
      have HF1 : Aside0 (lapF la co kz (j + 1) (if x = y then acc else acc ++ [(j : Int)]) = res) := ⟨by
        have h_ := HF.out
        rw [hkz] at h_
        simp only [lapF] at h_
        rw [HX.out, HY.out] at h_
        exact h_⟩
      clear HF
      by_cases e : x = y
      · have e1 : (x == y) = true := beq_iff_eq.mpr e
        have e2 : (x != y) = false := by simp [e]
        rw [if_pos e] at HF1
        clear e
        go_wp2
        go_roundg kz
        case measure => omega
        case rel => exact ⟨j + 1, acc, _, by go_num, rfl, ⟨by have := HJ.out; omega⟩, ⟨by have := HL.out; omega⟩, HF1, HO, ⟨by (with_reducible repeat (first | refine blk_drewN ?_ _ | refine blk_drew ?_ | refine blk_alloc ?_ _ | refine blk_far ?_ (by assumption) _)); exact BK7.out⟩, ⟨by (with_reducible repeat (first | refine blk_drewN ?_ _ | refine blk_drew ?_ | refine blk_alloc ?_ _ | refine blk_far ?_ (by assumption) _)); exact BK8.out⟩, ⟨by (with_reducible repeat (first | refine blk_drewN ?_ _ | refine blk_drew ?_ | refine blk_alloc ?_ _ | refine blk_far ?_ (by assumption) _)); exact BK9.out⟩, ⟨by repeat (first | (with_reducible first | exact HB.out | apply below_alloc | apply pw_below_drewN | apply below_drew1 | refine below_set ?_ GE7.out | refine below_set ?_ GE8.out | refine below_set ?_ GE9.out) | exact HB.out)⟩⟩
      · have e1 : (x == y) = false := beq_eq_false_iff_ne.mpr e
        have e2 : (x != y) = true := by simp [e]
        rw [if_neg e] at HF1
        clear e
        go_wp2_with (first | ((with_reducible refine gate_builtin (b := .append) (xs := #[.tmp 32, .tmp 34]) rfl ?_); at_builtin; refine Kd.R_append (Kd.int .i64) (w0 := w) w.heap.size rfl (.tmp 32) (.tmp 34) 27 3 (.int .i64 0) 8 rfl Try.underlying27 ninfo3 rfl (by decide) (by omega) u10 acc (j : Int) [.int .i64 (j : Int)] (fun _ => True) (fun _ => False) rfl rfl ?aP (fun _ hk => hk.elim) ?aF ?aO ?aB ?aS ?aL ?_; (case aP => exact rfl); (case aB => exact HB.out); (case aF => exact (fun _ _ => trivial)); (case aO => exact HO.out); (case aS => exact HB.out.size); (case aL => have := HL.out; omega); intro v1 w8 ho hb hg hat; have n0_ := Aside0.mk hb; have n1_ := Aside0.mk ho; have n2_ := Aside0.mk (blk_grown BK7.out hg (Kd.R_ne HO.out BK7.out (by decide))); have n3_ := Aside0.mk (blk_grown BK8.out hg (Kd.R_ne HO.out BK8.out (by decide))); have n4_ := Aside0.mk (blk_grown BK9.out hg (Kd.R_ne HO.out BK9.out (by decide))); clear HB HO BK7 BK8 BK9 ho hb hg hat; have HB := n0_; have HO := n1_; have BK7 := n2_; have BK8 := n3_; have BK9 := n4_; clear n0_ n1_ n2_ n3_ n4_) | fail)
        go_roundg kz
        case measure => omega
        case rel => exact ⟨j + 1, acc ++ [(j : Int)], _, by go_num, rfl, ⟨by have := HJ.out; omega⟩, ⟨by have := HL.out; rw [List.length_append]; simp; omega⟩, HF1, HO, ⟨by (with_reducible repeat (first | refine blk_drewN ?_ _ | refine blk_drew ?_ | refine blk_alloc ?_ _ | refine blk_far ?_ (by assumption) _)); exact BK7.out⟩, ⟨by (with_reducible repeat (first | refine blk_drewN ?_ _ | refine blk_drew ?_ | refine blk_alloc ?_ _ | refine blk_far ?_ (by assumption) _)); exact BK8.out⟩, ⟨by (with_reducible repeat (first | refine blk_drewN ?_ _ | refine blk_drew ?_ | refine blk_alloc ?_ _ | refine blk_far ?_ (by assumption) _)); exact BK9.out⟩, ⟨by repeat (first | (with_reducible first | exact HB.out | apply below_alloc | apply pw_below_drewN | apply below_drew1 | refine below_set ?_ GE7.out | refine below_set ?_ GE8.out | refine below_set ?_ GE9.out) | exact HB.out)⟩⟩
    · have x1b : decide ((j : Int) < 8) = false := decide_eq_false (by omega)
      have e0 : gk = 0 := by have := HJ.out; omega
      subst e0
      have e_ : acc = res := HF.out
      clear HF HJ HL x1
      subst e_
      have hc90 := (blk_cell BK9.out 0).trans rfl
      have hc91 := (blk_cell BK9.out 1).trans rfl
      have hf90 := blk_frozen BK9.out 0
      have hf91 := blk_frozen BK9.out 1
      have xc0 := (blk_cell BK7.out 0).trans rfl
      have xc1 := (blk_cell BK7.out 1).trans rfl
      have xf0 := blk_frozen BK7.out 0
      have xf1 := blk_frozen BK7.out 1
      go_wp2
      go_region
      go_wp2
      refine bodyPost_ret (results_tc rfl _ _ g7 25 #[.int .i64 f1, .int .i64 f2] (0, 0) _ rfl (by (with_reducible repeat (first | refine blk_drewN ?_ _ | refine blk_drew ?_ | refine blk_alloc ?_ _ | refine blk_far ?_ (by assumption) _)); refine blk_put (cs := #[.int .i64 f1, .int .i64 0]) ?_ 1 _ rfl; (with_reducible repeat (first | refine blk_drewN ?_ _ | refine blk_drew ?_ | refine blk_alloc ?_ _ | refine blk_far ?_ (by assumption) _)); refine blk_put (cs := #[.int .i64 0, .int .i64 0]) ?_ 0 _ rfl; (with_reducible repeat (first | refine blk_drewN ?_ _ | refine blk_drew ?_ | refine blk_alloc ?_ _ | refine blk_far ?_ (by assumption) _)); exact BK7.out) Try.underlying25 rfl (by kernel_rfl)) rfl ?_
      exact ⟨_, rfl, Kd.R_mono (ok := fun k => True ∧ k ≠ g7) (by (with_reducible repeat (first | apply Kd.R_drewN | apply Kd.R_drew | refine Kd.R_far ?_ (fun _ hk => hk.2) _)); exact Kd.R_types HO.out BK7.out (fun q hq => by rw [List.mem_singleton.1 hq]; decide)) (fun _ _ => trivial), by repeat (first | (with_reducible first | exact HB.out | apply below_alloc | apply pw_below_drewN | apply below_drew1 | refine below_set ?_ GE7.out | refine below_set ?_ GE8.out | refine below_set ?_ GE9.out) | exact HB.out)⟩
end Go.Proofs.Ytbkdaofddnkaaaa.PVo
