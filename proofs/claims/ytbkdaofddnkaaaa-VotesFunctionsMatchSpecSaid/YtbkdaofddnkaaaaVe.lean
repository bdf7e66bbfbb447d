import Derived.Test.YtbkdaofddnkaaaaVd
import Derived.Laws.CopyOwn
namespace Go.Proofs.Ytbkdaofddnkaaaa.PVo
open Go.RowKit Go.Proofs.YtbkdaofddnkaaaaW.PrintWords Go.Proofs.YtbkdaofddnkaaaaW.PrintLast Go.Proofs.YtbkdaofddnkaaaaW.PrintMore
attribute [local go_sem] max2_int min2_int max_two min_two max_three min_three max_four min_four
attribute [local go_sem high] eqA25
set_option linter.unusedVariables false
set_option linter.unusedSimpArgs false

theorem gate_storeV {P : Program} {ops : Array Oper} {rest : List Oper} {o : Oper} {a : Act} {W : World} {Q : Exit → Act → World → Prop} {ty : TypeId} {x y : Operand} (_ho : o.op = .store ty x y) (h : wpList P ops Q (o :: rest) a W) : wpList P ops Q (o :: rest) a W := h
theorem store_eventV {P : Program} {ops : Array Oper} {rest : List Oper} {o : Oper} {a : Act} {w : World} {Q : Exit → Act → World → Prop} (hgd : o.guard = none) (ty : TypeId) (x y : Operand) (ho : o.op = .store ty x y)
    (g : Nat) (cells : Array Value) (hx : a.eval x = .pointer (some ⟨g, 0, none⟩)) (hy : a.eval y = .agg cells)
    (t : TypeId) (old : Array Value) (hg : w.heap[g]? = some (.cells old t (0, 0))) (hi : (P.info? ty).map (·.size) = some cells.size)
    (hold : old.size = cells.size) (h1 : cells.all (·.oneCell') = true)
    (h : ∀ w' : World, w'.heap[g]? = some (.cells cells t (0, 0)) → (∀ k, k ≠ g → w'.heap[k]? = w.heap[k]?) → (∀ (B : Nat) (w0 : World), B ≤ g → Below B w0 w → Below B w0 w') → wpList P ops Q rest (a.put o.dst undef) w') : wpList P ops Q (o :: rest) a w :=
  wpList_store_row hgd ty x y ho g cells hx hy t old hg hi hold h1 (h _ (setRow_heap w g old cells t (0, 0) hg) (fun k hk => setRow_other w g k cells hk) (fun B w0 hB hb => below_setRow hb hB cells))
theorem bal_one (la co : List Int) : (bal la co).all (·.oneCell') = true := by
  unfold bal
  simp [Array.all_eq_true, Value.oneCell']
theorem two_one (a b : Int) : (#[.int .i64 a, .int .i64 b] : Array Value).all (·.oneCell') = true := by simp [Value.oneCell']
theorem two_size (a b : Int) : (Try.prog.info? 25).map (·.size) = some (#[.int .i64 a, .int .i64 b] : Array Value).size := by kernel_rfl
theorem votes_count.len_l (l : List S35) (tr : List Bool) (at_ : Int) : ∀ k, (∀ r nx la co x, la.length = 8 → co.length = 8 → votes_count.l0 k l tr at_ r nx la co = some x → x.1.length = 8 ∧ x.2.1.length = 8) ∧ (∀ r nx la co x, la.length = 8 → co.length = 8 → votes_count.l2 k l tr at_ r nx la co = some x → x.1.length = 8 ∧ x.2.1.length = 8) := by
  intro k
  induction k with
  | zero => exact ⟨fun _ _ _ _ _ _ _ h => by simp [votes_count.l0] at h, fun _ _ _ _ _ _ _ h => by simp [votes_count.l2] at h⟩
  | succ k ih =>
    refine ⟨fun r nx la co x h1 h2 h => ?_, fun r nx la co x h1 h2 h => ?_⟩
    · simp only [votes_count.l0] at h
      split at h
      · split at h
        · split at h
          · split at h
            · exact ih.2 _ _ _ _ _ h1 h2 h
            · exact ih.2 _ _ _ _ _ h1 (by rw [List.length_map]; exact h2) h
          · cases h
        · cases h
      · cases h
        exact ⟨h1, h2⟩
    · simp only [votes_count.l2] at h
      split at h
      · split at h
        · split at h
          · split at h
            · exact ih.2 _ _ _ _ _ (by rw [List.length_set]; exact h1) (by rw [List.length_set]; exact h2) h
            · cases h
          · exact ih.1 _ _ _ _ _ h1 h2 h
        · cases h
      · exact ih.1 _ _ _ _ _ h1 h2 h
theorem votes_count.len {k : Nat} {l : List S35} {tr : List Bool} {at_ : Int} {la co : List Int} {f1 f2 : Int} (h : votes_count.f k l tr at_ = some (la, co, f1, f2)) : la.length = 8 ∧ co.length = 8 := by
  unfold votes_count.f at h
  obtain ⟨v, _, H⟩ := Option.bind_eq_some_iff.mp h
  split at H
  · split at H
    · cases H
      exact ⟨rfl, rfl⟩
    · split at H
      · cases H
        exact ⟨rfl, rfl⟩
      · exact (votes_count.len_l l tr at_ k).1 _ _ _ _ _ rfl rfl H
  · cases H
    exact ⟨rfl, rfl⟩
theorem votes_count.mono_l (l : List S35) (tr : List Bool) (at_ : Int) : ∀ k, (∀ r nx la co, LeO (votes_count.l0 k l tr at_ r nx la co) (votes_count.l0 (k + 1) l tr at_ r nx la co)) ∧ (∀ r nx la co, LeO (votes_count.l2 k l tr at_ r nx la co) (votes_count.l2 (k + 1) l tr at_ r nx la co))
  | 0 => ⟨fun _ _ _ _ r h => by simp [votes_count.l0] at h, fun _ _ _ _ r h => by simp [votes_count.l2] at h⟩
  | k + 1 => by
    obtain ⟨ih0, ih1⟩ := votes_count.mono_l l tr at_ k
    refine ⟨?_, ?_⟩
    · intro r nx la co
      unfold votes_count.l0
      repeat' first
      | (with_reducible exact ih0 _ _ _ _)
      | (with_reducible exact ih1 _ _ _ _)
      | (with_reducible exact LeO.refl _)
      | (with_reducible refine LeO.ite ?_ ?_)
    · intro r nx la co
      unfold votes_count.l2
      repeat' first
      | (with_reducible exact ih0 _ _ _ _)
      | (with_reducible exact ih1 _ _ _ _)
      | (with_reducible exact LeO.refl _)
      | (with_reducible refine LeO.ite ?_ ?_)
theorem votes_count.mono : ∀ l tr at_ k, LeO (votes_count.f k l tr at_) (votes_count.f (k + 1) l tr at_) := by
  intro l tr at_ k
  unfold votes_count.f
  refine LeO.bind (votes_Validate.mono _ _ _) (fun v => LeO.ite (LeO.ite (LeO.refl _) (LeO.ite (LeO.refl _) ((votes_count.mono_l l tr at_ k).1 _ _ _ _))) (LeO.refl _))
theorem bal_V {w' : World} {g B base : Nat} {la co : List Int} (hg : w'.heap[g]? = some (.cells (bal la co) 69 (0, 0))) (h1 : la.length = 8) (h2 : co.length = 8) (hB : B ≤ g) : Kd.V (Kd.int .i64) 3 w' base (fun k_ => B ≤ k_) (.slice (some ⟨g, 8, none⟩) 8 8) co := by
  refine ⟨some ⟨g, 8, none⟩, 8, by rw [h2], by rw [h2]; exact Nat.le_refl _, ?_⟩
  intro W' hW
  have hg' : W'.heap[g]? = some (.cells (bal la co) 69 (0, 0)) := (hW g hB (blk_lt hg)).trans hg
  refine ⟨rfl, by rw [h2]; decide, fun _ => ⟨_, rfl, fun j p hj => ⟨[.int .i64 p], rfl, rfl, fun i u hi => ?_⟩⟩⟩
  have hjl : j < 8 := by rw [← h2]; exact (List.getElem?_eq_some_iff.1 hj).1
  cases i with
  | zero =>
    have e : u = .int .i64 p := by simpa using hi.symm
    subst e
    have e2 : ((⟨g, 8, none⟩ : Addr).add (j * 1 + 0)) = ⟨g, 8 + j, none⟩ := by simp [Addr.add]
    have e3 : (Kd.int .i64).sz = 1 := rfl
    rw [e3, e2, blk_cell hg' (8 + j), bal_get2 h1 h2 hjl]
    simp [List.getD, hj]
  | succ i => simp at hi
def votes_Current.f (k : Nat) (l0 : List (S35)) (l1 : List Bool) (a2 : Int) : Option (List Int × Int × Int) :=
  (votes_count.f k l0 l1 a2).bind fun b => if (b.2.2.1 == 0 && (b.2.2.2 == 0)) = true then some (b.2.1, b.2.2.1, b.2.2.2) else some ([], b.2.2.1, b.2.2.2)
theorem votes_Current.mono : ∀ l0 l1 a2 k, LeO (votes_Current.f k l0 l1 a2) (votes_Current.f (k + 1) l0 l1 a2) := by
  intro l0 l1 a2 k
  unfold votes_Current.f
  exact LeO.bind (votes_count.mono _ _ _ _) (fun _ => LeO.refl _)
set_option maxHeartbeats 8000000 in
set_option maxRecDepth 100000 in
theorem votes_Current.calls (k : Nat) (A0 : Option Addr) (c0 : Nat) (l0 : List (S35)) (A1 : Option Addr) (c1 : Nat) (l1 : List Bool) (a2 : Int) (r1 : List Int) (r2 : Int) (r3 : Int) (w : World) (hr0 : Kd.C k35 w A0 l0.length l0) (hc0 : l0.length ≤ c0) (hr1 : Kd.C Kd.bool w A1 l1.length l1) (hc1 : l1.length ≤ c1) (h : votes_Current.f k l0 l1 a2 = some (r1, r2, r3)) :
    Calls Try.prog 14 #[.slice A0 l0.length c0, .slice A1 l1.length c1, .int .i64 a2] w fun e w' => ∃ v0_ : Value, e = .returned (.tuple #[v0_, .agg #[.int .i64 r2, .int .i64 r3]]) ∧ Kd.V (Kd.int .i64) 3 w' w.heap.size (fun k_ => (w.heap.size ≤ k_)) v0_ r1 ∧ Below w.heap.size w w' := by
  unfold votes_Current.f at h
  obtain ⟨⟨la, co, f1, f2⟩, hv, H⟩ := Option.bind_eq_some_iff.mp h
  clear h
  dsimp only at H
  obtain ⟨l1_, l2_⟩ := votes_count.len hv
  have L1 := Aside0.mk l1_
  have L2 := Aside0.mk l2_
  clear l1_ l2_
  have hu25 := Try.underlying25
  have hu69 := Try.underlying69
  have hu67 := Try.underlying67
  have HR0 := Aside0.mk hr0
  have HC0 := Aside0.mk hc0
  have HR1 := Aside0.mk hr1
  have HC1 := Aside0.mk hc1
  clear hr0 hc0 hr1 hc1
  have HB := Aside0.mk (Below.refl w.heap.size w)
  have A2 := Aside0.mk hv
  clear hv
  by_cases q1 : (f1 == 0 && (f2 == 0)) = true
  · rw [if_pos q1] at H
    simp only [Option.some.injEq, Prod.mk.injEq] at H
    obtain ⟨rfl, rfl, rfl⟩ := H
    have q3 : (!(f1 == 0) || (!(f2 == 0))) = false := by simp at q1; simp [q1.1, q1.2]
    clear q1
    go_enter Try.func14, Try.ntmps14
    go_wp2_with (first
      | ((with_reducible refine gate_dst (N := 7) rfl ?_); refine box_event ?hg (N := 7) ?hd (cs := #[.int .i64 0, .int .i64 0]) (t := 25) ?hr ?_; (case hd => rfl); (case hg => rfl); (case hr => first | (go_simp; rfl) | kernel_rfl); intro g7 hg w2 hbox hb; have GE7 : Aside0 (w.heap.size ≤ g7) := Aside0.mk (by rw [hg]; exact HB.out.size); have n0_ := Aside0.mk (below_step HB.out hb); have BK7 := Aside0.mk hbox; clear HB; have HB := n0_; clear n0_ hb hbox hg)
      | ((with_reducible refine gate_callee (f := 33) rfl ?_); refine goesL_ (some 14) rfl rfl Try.func33 (by kernel_rfl) rfl #[.slice A0 l0.length c0, .slice A1 l1.length c1, .int .i64 a2] rfl (by (try simp only [List.map_toArray, List.map_cons, List.map_nil]); first | done | rfl) ?_; (refine (votes_count.calls k _ _ l0 _ _ l1 a2 la co f1 f2 _ (Kd.C_below HR0.out HB.out) HC0.out (Kd.C_below HR1.out HB.out) HC1.out A2.out).mono ?_); rintro e w4 ⟨rfl, hb⟩; refine ⟨_, rfl, ?_⟩; have n0_ := Aside0.mk (below_step HB.out hb); have n2_ := Aside0.mk (blk_below BK7.out hb); clear HB BK7; have HB := n0_; have BK7 := n2_; clear n0_ n2_ hb)
      | ((with_reducible refine gate_dst (N := 8) rfl ?_); refine box_event ?hg (N := 8) ?hd (cs := bal z8 z8) (t := 69) ?hr ?_; (case hd => rfl); (case hg => rfl); (case hr => first | (go_simp; rfl) | kernel_rfl); intro g8 hg w3 hbox hb; have NE87 : g8 ≠ g7 := (by rw [hg]; exact Nat.ne_of_gt (blk_lt BK7.out)); have NE78 := Ne.symm NE87; have GE8 : Aside0 (w.heap.size ≤ g8) := Aside0.mk (by rw [hg]; exact HB.out.size); have n0_ := Aside0.mk (below_step HB.out hb); have n2_ := Aside0.mk (blk_below BK7.out hb); have BK8 := Aside0.mk hbox; clear HB BK7; have HB := n0_; have BK7 := n2_; clear n0_ n2_ hb hbox hg)
      | ((with_reducible refine gate_dst (N := 9) rfl ?_); refine box_event ?hg (N := 9) ?hd (cs := #[.int .i64 0, .int .i64 0]) (t := 25) ?hr ?_; (case hd => rfl); (case hg => rfl); (case hr => first | (go_simp; rfl) | kernel_rfl); intro g9 hg w5 hbox hb; have NE97 : g9 ≠ g7 := (by rw [hg]; exact Nat.ne_of_gt (blk_lt BK7.out)); have NE79 := Ne.symm NE97; have NE98 : g9 ≠ g8 := (by rw [hg]; exact Nat.ne_of_gt (blk_lt BK8.out)); have NE89 := Ne.symm NE98; have GE9 : Aside0 (w.heap.size ≤ g9) := Aside0.mk (by rw [hg]; exact HB.out.size); have n0_ := Aside0.mk (below_step HB.out hb); have n2_ := Aside0.mk (blk_below BK7.out hb); have n3_ := Aside0.mk (blk_below BK8.out hb); have BK9 := Aside0.mk hbox; clear HB BK7 BK8; have HB := n0_; have BK7 := n2_; have BK8 := n3_; clear n0_ n2_ n3_ hb hbox hg)
      | ((with_reducible refine gate_storeV (ty := 69) (x := .tmp 8) (y := .tmp 15) rfl ?_); refine store_eventV rfl 69 (.tmp 8) (.tmp 15) rfl g8 (bal la co) rfl rfl 69 (bal z8 z8) BK8.out (by rw [bal_size, L1.out, L2.out]; kernel_rfl) (by rw [bal_size, bal_size, L1.out, L2.out]; rfl) (bal_one la co) ?_; intro w6 hn ho hb; have n0_ := Aside0.mk (hb _ _ GE8.out HB.out); have n2_ := Aside0.mk ((ho _ NE78).trans BK7.out); have n4_ := Aside0.mk ((ho _ NE98).trans BK9.out); have n3_ := Aside0.mk hn; clear HB BK7 BK8 BK9 hn ho hb; have HB := n0_; have BK7 := n2_; have BK8 := n3_; have BK9 := n4_; clear n0_ n2_ n3_ n4_)
      | ((with_reducible refine gate_storeV (ty := 25) (x := .tmp 9) (y := .tmp 16) rfl ?_); refine store_eventV rfl 25 (.tmp 9) (.tmp 16) rfl g9 #[.int .i64 f1, .int .i64 f2] rfl rfl 25 #[.int .i64 0, .int .i64 0] BK9.out (two_size f1 f2) rfl (two_one f1 f2) ?_; intro w7 hn ho hb; have n0_ := Aside0.mk (hb _ _ GE9.out HB.out); have n2_ := Aside0.mk ((ho _ NE79).trans BK7.out); have n3_ := Aside0.mk ((ho _ NE89).trans BK8.out); have n4_ := Aside0.mk hn; clear HB BK7 BK8 BK9 hn ho hb; have HB := n0_; have BK7 := n2_; have BK8 := n3_; have BK9 := n4_; clear n0_ n2_ n3_ n4_; have hc90 := (blk_cell BK9.out 0).trans rfl; have hc91 := (blk_cell BK9.out 1).trans rfl; have hf90 := blk_frozen BK9.out 0; have hf91 := blk_frozen BK9.out 1; have xc0 := (blk_cell BK7.out 0).trans rfl; have xc1 := (blk_cell BK7.out 1).trans rfl; have xf0 := blk_frozen BK7.out 0; have xf1 := blk_frozen BK7.out 1)
      | fail)
    go_region
    go_wp2
    refine bodyPost_ret (results_tc rfl _ _ g7 25 #[.int .i64 f1, .int .i64 f2] (0, 0) _ rfl (by (with_reducible repeat (first | refine blk_drewN ?_ _ | refine blk_drew ?_ | refine blk_alloc ?_ _ | refine blk_far ?_ (by assumption) _)); refine blk_put (cs := #[.int .i64 f1, .int .i64 0]) ?_ 1 _ rfl; (with_reducible repeat (first | refine blk_drewN ?_ _ | refine blk_drew ?_ | refine blk_alloc ?_ _ | refine blk_far ?_ (by assumption) _)); refine blk_put (cs := #[.int .i64 0, .int .i64 0]) ?_ 0 _ rfl; (with_reducible repeat (first | refine blk_drewN ?_ _ | refine blk_drew ?_ | refine blk_alloc ?_ _ | refine blk_far ?_ (by assumption) _)); exact BK7.out) Try.underlying25 rfl (by kernel_rfl)) rfl ?_
    exact ⟨_, rfl, bal_V (la := la) (by (with_reducible repeat (first | refine blk_drewN ?_ _ | refine blk_drew ?_ | refine blk_alloc ?_ _ | refine blk_far ?_ (by assumption) _)); exact BK8.out) L1.out L2.out GE8.out, by repeat (first | (with_reducible first | exact HB.out | apply below_alloc | apply pw_below_drewN | apply below_drew1 | refine below_set ?_ GE7.out | refine below_set ?_ GE8.out | refine below_set ?_ GE9.out) | exact HB.out)⟩
  · rw [if_neg q1] at H
    simp only [Option.some.injEq, Prod.mk.injEq] at H
    obtain ⟨rfl, rfl, rfl⟩ := H
    have q2 : (f1 == 0 && (f2 == 0)) = false := by simpa using q1
    have q3 : (!(f1 == 0) || (!(f2 == 0))) = true := by have h_ := congrArg not q2; simpa [Bool.not_and] using h_
    clear q1
    go_enter Try.func14, Try.ntmps14
    go_wp2_with (first
      | ((with_reducible refine gate_dst (N := 7) rfl ?_); refine box_event ?hg (N := 7) ?hd (cs := #[.int .i64 0, .int .i64 0]) (t := 25) ?hr ?_; (case hd => rfl); (case hg => rfl); (case hr => first | (go_simp; rfl) | kernel_rfl); intro g7 hg w2 hbox hb; have GE7 : Aside0 (w.heap.size ≤ g7) := Aside0.mk (by rw [hg]; exact HB.out.size); have n0_ := Aside0.mk (below_step HB.out hb); have BK7 := Aside0.mk hbox; clear HB; have HB := n0_; clear n0_ hb hbox hg)
      | ((with_reducible refine gate_callee (f := 33) rfl ?_); refine goesL_ (some 14) rfl rfl Try.func33 (by kernel_rfl) rfl #[.slice A0 l0.length c0, .slice A1 l1.length c1, .int .i64 a2] rfl (by (try simp only [List.map_toArray, List.map_cons, List.map_nil]); first | done | rfl) ?_; (refine (votes_count.calls k _ _ l0 _ _ l1 a2 la co f1 f2 _ (Kd.C_below HR0.out HB.out) HC0.out (Kd.C_below HR1.out HB.out) HC1.out A2.out).mono ?_); rintro e w4 ⟨rfl, hb⟩; refine ⟨_, rfl, ?_⟩; have n0_ := Aside0.mk (below_step HB.out hb); have n2_ := Aside0.mk (blk_below BK7.out hb); clear HB BK7; have HB := n0_; have BK7 := n2_; clear n0_ n2_ hb)
      | ((with_reducible refine gate_dst (N := 8) rfl ?_); refine box_event ?hg (N := 8) ?hd (cs := bal z8 z8) (t := 69) ?hr ?_; (case hd => rfl); (case hg => rfl); (case hr => first | (go_simp; rfl) | kernel_rfl); intro g8 hg w3 hbox hb; have NE87 : g8 ≠ g7 := (by rw [hg]; exact Nat.ne_of_gt (blk_lt BK7.out)); have NE78 := Ne.symm NE87; have GE8 : Aside0 (w.heap.size ≤ g8) := Aside0.mk (by rw [hg]; exact HB.out.size); have n0_ := Aside0.mk (below_step HB.out hb); have n2_ := Aside0.mk (blk_below BK7.out hb); have BK8 := Aside0.mk hbox; clear HB BK7; have HB := n0_; have BK7 := n2_; clear n0_ n2_ hb hbox hg)
      | ((with_reducible refine gate_dst (N := 9) rfl ?_); refine box_event ?hg (N := 9) ?hd (cs := #[.int .i64 0, .int .i64 0]) (t := 25) ?hr ?_; (case hd => rfl); (case hg => rfl); (case hr => first | (go_simp; rfl) | kernel_rfl); intro g9 hg w5 hbox hb; have NE97 : g9 ≠ g7 := (by rw [hg]; exact Nat.ne_of_gt (blk_lt BK7.out)); have NE79 := Ne.symm NE97; have NE98 : g9 ≠ g8 := (by rw [hg]; exact Nat.ne_of_gt (blk_lt BK8.out)); have NE89 := Ne.symm NE98; have GE9 : Aside0 (w.heap.size ≤ g9) := Aside0.mk (by rw [hg]; exact HB.out.size); have n0_ := Aside0.mk (below_step HB.out hb); have n2_ := Aside0.mk (blk_below BK7.out hb); have n3_ := Aside0.mk (blk_below BK8.out hb); have BK9 := Aside0.mk hbox; clear HB BK7 BK8; have HB := n0_; have BK7 := n2_; have BK8 := n3_; clear n0_ n2_ n3_ hb hbox hg)
      | ((with_reducible refine gate_storeV (ty := 69) (x := .tmp 8) (y := .tmp 15) rfl ?_); refine store_eventV rfl 69 (.tmp 8) (.tmp 15) rfl g8 (bal la co) rfl rfl 69 (bal z8 z8) BK8.out (by rw [bal_size, L1.out, L2.out]; kernel_rfl) (by rw [bal_size, bal_size, L1.out, L2.out]; rfl) (bal_one la co) ?_; intro w6 hn ho hb; have n0_ := Aside0.mk (hb _ _ GE8.out HB.out); have n2_ := Aside0.mk ((ho _ NE78).trans BK7.out); have n4_ := Aside0.mk ((ho _ NE98).trans BK9.out); have n3_ := Aside0.mk hn; clear HB BK7 BK8 BK9 hn ho hb; have HB := n0_; have BK7 := n2_; have BK8 := n3_; have BK9 := n4_; clear n0_ n2_ n3_ n4_)
      | ((with_reducible refine gate_storeV (ty := 25) (x := .tmp 9) (y := .tmp 16) rfl ?_); refine store_eventV rfl 25 (.tmp 9) (.tmp 16) rfl g9 #[.int .i64 f1, .int .i64 f2] rfl rfl 25 #[.int .i64 0, .int .i64 0] BK9.out (two_size f1 f2) rfl (two_one f1 f2) ?_; intro w7 hn ho hb; have n0_ := Aside0.mk (hb _ _ GE9.out HB.out); have n2_ := Aside0.mk ((ho _ NE79).trans BK7.out); have n3_ := Aside0.mk ((ho _ NE89).trans BK8.out); have n4_ := Aside0.mk hn; clear HB BK7 BK8 BK9 hn ho hb; have HB := n0_; have BK7 := n2_; have BK8 := n3_; have BK9 := n4_; clear n0_ n2_ n3_ n4_; have hc90 := (blk_cell BK9.out 0).trans rfl; have hc91 := (blk_cell BK9.out 1).trans rfl; have hf90 := blk_frozen BK9.out 0; have hf91 := blk_frozen BK9.out 1; have xc0 := (blk_cell BK7.out 0).trans rfl; have xc1 := (blk_cell BK7.out 1).trans rfl; have xf0 := blk_frozen BK7.out 0; have xf1 := blk_frozen BK7.out 1)
      | fail)
    go_region
    go_wp2
    refine bodyPost_ret (results_tc rfl _ _ g7 25 #[.int .i64 f1, .int .i64 f2] (0, 0) _ rfl (by (with_reducible repeat (first | refine blk_drewN ?_ _ | refine blk_drew ?_ | refine blk_alloc ?_ _ | refine blk_far ?_ (by assumption) _)); refine blk_put (cs := #[.int .i64 f1, .int .i64 0]) ?_ 1 _ rfl; (with_reducible repeat (first | refine blk_drewN ?_ _ | refine blk_drew ?_ | refine blk_alloc ?_ _ | refine blk_far ?_ (by assumption) _)); refine blk_put (cs := #[.int .i64 0, .int .i64 0]) ?_ 0 _ rfl; (with_reducible repeat (first | refine blk_drewN ?_ _ | refine blk_drew ?_ | refine blk_alloc ?_ _ | refine blk_far ?_ (by assumption) _)); exact BK7.out) Try.underlying25 rfl (by kernel_rfl)) rfl ?_
    exact ⟨_, rfl, Kd.V_nil _ _ _ _ _, by repeat (first | (with_reducible first | exact HB.out | apply below_alloc | apply pw_below_drewN | apply below_drew1 | refine below_set ?_ GE7.out | refine below_set ?_ GE8.out | refine below_set ?_ GE9.out) | exact HB.out)⟩
end Go.Proofs.Ytbkdaofddnkaaaa.PVo
