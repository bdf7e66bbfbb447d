import Derived.Test.YtbkdaofddnkaaaaVe
import Derived.Laws.CopyOwn
namespace Go.Proofs.Ytbkdaofddnkaaaa.PVo
open Go.RowKit Go.Proofs.YtbkdaofddnkaaaaW.PrintWords Go.Proofs.YtbkdaofddnkaaaaW.PrintLast Go.Proofs.YtbkdaofddnkaaaaW.PrintMore
attribute [local go_sem] max2_int min2_int max_two min_two max_three min_three max_four min_four
attribute [local go_sem high] eqA25
set_option linter.unusedVariables false
set_option linter.unusedSimpArgs false

theorem results_ttc {P : Program} {fn : Func} {p u v : Tmp} {ty : TypeId} (h : fn.results = #[.tmp u, .tmp v, .cell p ty]) (tmps : Array Value) (w : World) (g : Nat) (t : TypeId) (cs : Array Value) (fr : Nat × Nat) (d : TypeDesc)
    (hp : tmps.getD p undef = .pointer (some ⟨g, 0, none⟩)) (hg : w.heap[g]? = some (.cells cs t fr))
    (hu : P.underlying ty = some d) (hd : (match d with | .struct _ | .array _ _ => true | _ => false) = true) (hi : (P.info? ty).map (·.size) = some cs.size) :
    (results fn tmps).run P w = .ok (.tuple #[tmps.getD u undef, tmps.getD v undef, .agg cs]) w := by
  have hp' : tmps[p]?.getD undef = .pointer (some ⟨g, 0, none⟩) := by simpa using hp
  simp [results, h, hp', asAddr, run_loadVar_row w g t ty cs fr d hg hu hd hi]
def scoStep (p : Int × Bool) (v : Int) : Int × Bool := (wrap64 (p.1 + v), p.2 || v == -2)
theorem drop_fold {β : Type} (f : β → Int → β) (b : β) {l : List Int} {j : Nat} (h : j < l.length) : (l.drop j).foldl f b = (l.drop (j + 1)).foldl f (f b (l.getD j 0)) := by
  rw [List.drop_eq_getElem_cons h, List.foldl_cons]
  simp [List.getElem?_eq_getElem h]
theorem drop_fold_end {β : Type} (f : β → Int → β) (b : β) {l : List Int} {j : Nat} (h : l.length ≤ j) : (l.drop j).foldl f b = b := by
  rw [List.drop_eq_nil_of_le h]
  rfl
def votes_Score.f (k : Nat) (l0 : List (S35)) (l1 : List Bool) (a2 : Int) : Option (Int × Bool × Int × Int) :=
  (votes_count.f k l0 l1 a2).bind fun b => some ((b.2.1.foldl scoStep (0, false)).1, (b.2.1.foldl scoStep (0, false)).2, b.2.2.1, b.2.2.2)
theorem votes_Score.mono : ∀ l0 l1 a2 k, LeO (votes_Score.f k l0 l1 a2) (votes_Score.f (k + 1) l0 l1 a2) := by
  intro l0 l1 a2 k
  unfold votes_Score.f
  exact LeO.bind (votes_count.mono _ _ _ _) (fun _ => LeO.refl _)
set_option maxHeartbeats 8000000 in
set_option maxRecDepth 100000 in
theorem votes_Score.calls (k : Nat) (A0 : Option Addr) (c0 : Nat) (l0 : List (S35)) (A1 : Option Addr) (c1 : Nat) (l1 : List Bool) (a2 : Int) (r1 : Int) (r2 : Bool) (r3 : Int) (r4 : Int) (w : World) (hr0 : Kd.C k35 w A0 l0.length l0) (hc0 : l0.length ≤ c0) (hr1 : Kd.C Kd.bool w A1 l1.length l1) (hc1 : l1.length ≤ c1) (h : votes_Score.f k l0 l1 a2 = some (r1, r2, r3, r4)) :
    Calls Try.prog 15 #[.slice A0 l0.length c0, .slice A1 l1.length c1, .int .i64 a2] w fun e w' => e = .returned (.tuple #[.int .i64 r1, .bool r2, .agg #[.int .i64 r3, .int .i64 r4]]) ∧ Below w.heap.size w w' := by
  unfold votes_Score.f at h
  obtain ⟨⟨la, co, f1, f2⟩, hv, H⟩ := Option.bind_eq_some_iff.mp h
  clear h
  dsimp only at H
  obtain ⟨l1_, l2_⟩ := votes_count.len hv
  have L1 := Aside0.mk l1_
  have L2 := Aside0.mk l2_
  clear l1_ l2_
  have hu25 := Try.underlying25
  have hu69 := Try.underlying69
  have hu67 := Try.underlying67
  have HR0 := Aside0.mk hr0
  have HC0 := Aside0.mk hc0
  have HR1 := Aside0.mk hr1
  have HC1 := Aside0.mk hc1
  clear hr0 hc0 hr1 hc1
  have HB := Aside0.mk (Below.refl w.heap.size w)
  have A2 := Aside0.mk hv
  clear hv
  obtain ⟨⟨rs, rv⟩, hF⟩ : ∃ p : Int × Bool, co.foldl scoStep (0, false) = p := ⟨_, rfl⟩
  rw [hF] at H
  have HF0 := Aside0.mk hF
  clear hF
  simp only [Option.some.injEq, Prod.mk.injEq] at H
  obtain ⟨rfl, rfl, rfl, rfl⟩ := H
  go_enter Try.func15, Try.ntmps15
  go_wp2_with (first
    | ((with_reducible refine gate_dst (N := 8) rfl ?_); refine box_event ?hg (N := 8) ?hd (cs := #[.int .i64 0, .int .i64 0]) (t := 25) ?hr ?_; (case hd => rfl); (case hg => rfl); (case hr => first | (go_simp; rfl) | kernel_rfl); intro g7 hg w2 hbox hb; have GE7 : Aside0 (w.heap.size ≤ g7) := Aside0.mk (by rw [hg]; exact HB.out.size); have n0_ := Aside0.mk (below_step HB.out hb); have BK7 := Aside0.mk hbox; clear HB; have HB := n0_; clear n0_ hb hbox hg)
    | ((with_reducible refine gate_callee (f := 33) rfl ?_); refine goesL_ (some 19) rfl rfl Try.func33 (by kernel_rfl) rfl #[.slice A0 l0.length c0, .slice A1 l1.length c1, .int .i64 a2] rfl (by (try simp only [List.map_toArray, List.map_cons, List.map_nil]); first | done | rfl) ?_; (refine (votes_count.calls k _ _ l0 _ _ l1 a2 la co f1 f2 _ (Kd.C_below HR0.out HB.out) HC0.out (Kd.C_below HR1.out HB.out) HC1.out A2.out).mono ?_); rintro e w4 ⟨rfl, hb⟩; refine ⟨_, rfl, ?_⟩; have n0_ := Aside0.mk (below_step HB.out hb); have n2_ := Aside0.mk (blk_below BK7.out hb); clear HB BK7; have HB := n0_; have BK7 := n2_; clear n0_ n2_ hb)
    | ((with_reducible refine gate_dst (N := 9) rfl ?_); refine box_event ?hg (N := 9) ?hd (cs := bal z8 z8) (t := 69) ?hr ?_; (case hd => rfl); (case hg => rfl); (case hr => first | (go_simp; rfl) | kernel_rfl); intro g8 hg w3 hbox hb; have NE87 : g8 ≠ g7 := (by rw [hg]; exact Nat.ne_of_gt (blk_lt BK7.out)); have NE78 := Ne.symm NE87; have GE8 : Aside0 (w.heap.size ≤ g8) := Aside0.mk (by rw [hg]; exact HB.out.size); have n0_ := Aside0.mk (below_step HB.out hb); have n2_ := Aside0.mk (blk_below BK7.out hb); have BK8 := Aside0.mk hbox; clear HB BK7; have HB := n0_; have BK7 := n2_; clear n0_ n2_ hb hbox hg)
    | ((with_reducible refine gate_dst (N := 10) rfl ?_); refine box_event ?hg (N := 10) ?hd (cs := #[.int .i64 0, .int .i64 0]) (t := 25) ?hr ?_; (case hd => rfl); (case hg => rfl); (case hr => first | (go_simp; rfl) | kernel_rfl); intro g9 hg w5 hbox hb; have NE97 : g9 ≠ g7 := (by rw [hg]; exact Nat.ne_of_gt (blk_lt BK7.out)); have NE79 := Ne.symm NE97; have NE98 : g9 ≠ g8 := (by rw [hg]; exact Nat.ne_of_gt (blk_lt BK8.out)); have NE89 := Ne.symm NE98; have GE9 : Aside0 (w.heap.size ≤ g9) := Aside0.mk (by rw [hg]; exact HB.out.size); have n0_ := Aside0.mk (below_step HB.out hb); have n2_ := Aside0.mk (blk_below BK7.out hb); have n3_ := Aside0.mk (blk_below BK8.out hb); have BK9 := Aside0.mk hbox; clear HB BK7 BK8; have HB := n0_; have BK7 := n2_; have BK8 := n3_; clear n0_ n2_ n3_ hb hbox hg)
    | ((with_reducible refine gate_storeV (ty := 69) (x := .tmp 9) (y := .tmp 20) rfl ?_); refine store_eventV rfl 69 (.tmp 9) (.tmp 20) rfl g8 (bal la co) rfl rfl 69 (bal z8 z8) BK8.out (by rw [bal_size, L1.out, L2.out]; kernel_rfl) (by rw [bal_size, bal_size, L1.out, L2.out]; rfl) (bal_one la co) ?_; intro w6 hn ho hb; have n0_ := Aside0.mk (hb _ _ GE8.out HB.out); have n2_ := Aside0.mk ((ho _ NE78).trans BK7.out); have n4_ := Aside0.mk ((ho _ NE98).trans BK9.out); have n3_ := Aside0.mk hn; clear HB BK7 BK8 BK9 hn ho hb; have HB := n0_; have BK7 := n2_; have BK8 := n3_; have BK9 := n4_; clear n0_ n2_ n3_ n4_)
    | ((with_reducible refine gate_storeV (ty := 25) (x := .tmp 10) (y := .tmp 21) rfl ?_); refine store_eventV rfl 25 (.tmp 10) (.tmp 21) rfl g9 #[.int .i64 f1, .int .i64 f2] rfl rfl 25 #[.int .i64 0, .int .i64 0] BK9.out (two_size f1 f2) rfl (two_one f1 f2) ?_; intro w7 hn ho hb; have n0_ := Aside0.mk (hb _ _ GE9.out HB.out); have n2_ := Aside0.mk ((ho _ NE79).trans BK7.out); have n3_ := Aside0.mk ((ho _ NE89).trans BK8.out); have n4_ := Aside0.mk hn; clear HB BK7 BK8 BK9 hn ho hb; have HB := n0_; have BK7 := n2_; have BK8 := n3_; have BK9 := n4_; clear n0_ n2_ n3_ n4_; have hc90 := (blk_cell BK9.out 0).trans rfl; have hc91 := (blk_cell BK9.out 1).trans rfl; have hf90 := blk_frozen BK9.out 0; have hf91 := blk_frozen BK9.out 1; have xc0 := (blk_cell BK7.out 0).trans rfl; have xc1 := (blk_cell BK7.out 1).trans rfl; have xf0 := blk_frozen BK7.out 0; have xf1 := blk_frozen BK7.out 1)
    | ((with_reducible refine gate_dst (N := 23) rfl ?_); refine wpList_load_part rfl 67 (.tmp 22) rfl g8 8 8 rfl 69 (bal la co) (0, 0) _ BK8.out Try.underlying67 rfl (by kernel_rfl) (by rw [bal_size, L1.out, L2.out]; exact Nat.le_refl _) ?_; rw [bal_part L1.out L2.out])
    | fail)
  go_loopg [11, 12, 24] 8 (fun kq v11 v12 v24 w' => ∃ (j : Nat) (s : Int) (vt : Bool), v24 = .int .i64 (j : Int) ∧ v11 = .int .i64 s ∧ v12 = .bool vt ∧ Aside0 (j + kq = 8) ∧ Aside0 ((co.drop j).foldl scoStep (s, vt) = (rs, rv)) ∧ Aside0 (w'.heap[g7]? = some (.cells #[.int .i64 0, .int .i64 0] 25 (0, 0))) ∧ Aside0 (w'.heap[g9]? = some (.cells #[.int .i64 f1, .int .i64 f2] 25 (0, 0))) ∧ Aside0 (Below w.heap.size w w'))
  case atStart => exact ⟨0, 0, false, rfl, rfl, rfl, ⟨rfl⟩, HF0, ⟨by (with_reducible repeat (first | refine blk_drewN ?_ _ | refine blk_drew ?_ | refine blk_alloc ?_ _ | refine blk_far ?_ (by assumption) _)); exact BK7.out⟩, ⟨by (with_reducible repeat (first | refine blk_drewN ?_ _ | refine blk_drew ?_ | refine blk_alloc ?_ _ | refine blk_far ?_ (by assumption) _)); exact BK9.out⟩, ⟨by repeat (first | (with_reducible first | exact HB.out | apply below_alloc | apply pw_below_drewN | apply below_drew1 | refine below_set ?_ GE7.out | refine below_set ?_ GE8.out | refine below_set ?_ GE9.out) | exact HB.out)⟩⟩
  case round =>
    clear HF0
    obtain ⟨j, s, vt, rfl, rfl, rfl, HJ, HF, BK7, BK9, HB⟩ := hrel
    by_cases x1 : j < 8
    · have x1b : decide ((j : Int) < 8) = true := decide_eq_true (by omega)
      have x1p := eq_true x1
      obtain ⟨x, HX⟩ : ∃ x : Int, Aside0 (co.getD j 0 = x) := ⟨_, ⟨rfl⟩⟩
      have hix : ∀ W : World, (Instr.index 67 (.agg (co8 co)) (.int .i64 (j : Int))).run Try.prog W = .ok (.int .i64 x) W := fun W => by rw [← HX.out]; exact run_index8 L2.out j x1 W
      have HF1 : Aside0 ((co.drop (j + 1)).foldl scoStep (wrap64 (s + x), vt || x == -2) = (rs, rv)) := ⟨by
        have h_ := drop_fold scoStep (s, vt) (l := co) (j := j) (by rw [L2.out]; exact x1)
        rw [HX.out, HF.out] at h_
        exact h_.symm⟩
      clear HF
      cases vt
      · go_wp2
        go_roundg (gk - 1)
        case measure => have := HJ.out; omega
        case rel => exact ⟨j + 1, wrap64 (s + x), (x == -2), by go_num, by first | rfl | go_num, by first | rfl | simp, ⟨by have := HJ.out; omega⟩, ⟨by have h_ := HF1.out; simpa only [Bool.false_or] using h_⟩, ⟨by (with_reducible repeat (first | refine blk_drewN ?_ _ | refine blk_drew ?_ | refine blk_alloc ?_ _ | refine blk_far ?_ (by assumption) _)); exact BK7.out⟩, ⟨by (with_reducible repeat (first | refine blk_drewN ?_ _ | refine blk_drew ?_ | refine blk_alloc ?_ _ | refine blk_far ?_ (by assumption) _)); exact BK9.out⟩, ⟨by repeat (first | (with_reducible first | exact HB.out | apply below_alloc | apply pw_below_drewN | apply below_drew1 | refine below_set ?_ GE7.out | refine below_set ?_ GE8.out | refine below_set ?_ GE9.out) | exact HB.out)⟩⟩
      · go_wp2
        go_roundg (gk - 1)
        case measure => have := HJ.out; omega
        case rel => exact ⟨j + 1, wrap64 (s + x), true, by go_num, by first | rfl | go_num, by first | rfl | simp, ⟨by have := HJ.out; omega⟩, ⟨by have h_ := HF1.out; simpa only [Bool.true_or] using h_⟩, ⟨by (with_reducible repeat (first | refine blk_drewN ?_ _ | refine blk_drew ?_ | refine blk_alloc ?_ _ | refine blk_far ?_ (by assumption) _)); exact BK7.out⟩, ⟨by (with_reducible repeat (first | refine blk_drewN ?_ _ | refine blk_drew ?_ | refine blk_alloc ?_ _ | refine blk_far ?_ (by assumption) _)); exact BK9.out⟩, ⟨by repeat (first | (with_reducible first | exact HB.out | apply below_alloc | apply pw_below_drewN | apply below_drew1 | refine below_set ?_ GE7.out | refine below_set ?_ GE8.out | refine below_set ?_ GE9.out) | exact HB.out)⟩⟩
    · have x1b : decide ((j : Int) < 8) = false := decide_eq_false (by omega)
      have e_ : (s, vt) = (rs, rv) := by rw [← HF.out, drop_fold_end scoStep (s, vt) (by rw [L2.out]; omega)]
      clear HF HJ x1
      simp only [Prod.mk.injEq] at e_
      obtain ⟨rfl, rfl⟩ := e_
      have hc90 := (blk_cell BK9.out 0).trans rfl
      have hc91 := (blk_cell BK9.out 1).trans rfl
      have hf90 := blk_frozen BK9.out 0
      have hf91 := blk_frozen BK9.out 1
      have xc0 := (blk_cell BK7.out 0).trans rfl
      have xc1 := (blk_cell BK7.out 1).trans rfl
      have xf0 := blk_frozen BK7.out 0
      have xf1 := blk_frozen BK7.out 1
      go_wp2
      go_region
      go_wp2
      refine bodyPost_ret (results_ttc rfl _ _ g7 25 #[.int .i64 f1, .int .i64 f2] (0, 0) _ rfl (by (with_reducible repeat (first | refine blk_drewN ?_ _ | refine blk_drew ?_ | refine blk_alloc ?_ _ | refine blk_far ?_ (by assumption) _)); refine blk_put (cs := #[.int .i64 f1, .int .i64 0]) ?_ 1 _ rfl; (with_reducible repeat (first | refine blk_drewN ?_ _ | refine blk_drew ?_ | refine blk_alloc ?_ _ | refine blk_far ?_ (by assumption) _)); refine blk_put (cs := #[.int .i64 0, .int .i64 0]) ?_ 0 _ rfl; (with_reducible repeat (first | refine blk_drewN ?_ _ | refine blk_drew ?_ | refine blk_alloc ?_ _ | refine blk_far ?_ (by assumption) _)); exact BK7.out) Try.underlying25 rfl (by kernel_rfl)) rfl ?_
      exact ⟨rfl, by repeat (first | (with_reducible first | exact HB.out | apply below_alloc | apply pw_below_drewN | apply below_drew1 | refine below_set ?_ GE7.out | refine below_set ?_ GE8.out | refine below_set ?_ GE9.out) | exact HB.out)⟩
end Go.Proofs.Ytbkdaofddnkaaaa.PVo
