/- The law PolicyWithoutNotIsMonotone. By hand. -/
import Derived.Test.YtblkkhddefnkpaaDoorPf
import Derived.Test.YtblkkhddefnkpaaDoorPm
import Derived.Test.YtblkkhddefnkpaaDoorPPox6
import Derived.Test.YtblkkhddefnkpaaDoorPs
import Derived.Test.YtblkkhddefnkpaaDoorPPox59
import Derived.Laws.CopyOwn
namespace Go.Proofs.YtblkkhddefnkpaaDoor.PPo
open Go.RowKit Go.Proofs.YtblkkhddefnkpaaDoorW.PrintWords Go.Proofs.YtblkkhddefnkpaaDoorW.PrintLast Go.Proofs.YtblkkhddefnkpaaDoorW.PrintMore
attribute [local go_sem] max2_int min2_int max_two min_two max_three min_three max_four min_four
attribute [local go_sem] World.cell?_alloc_some
attribute [local go_sem high] eqA28
set_option linter.unusedVariables false
set_option linter.unusedSimpArgs false


def changeforgelaw7_PolicyWithoutNotIsMonotone.f (k : Nat) (l0_0 : List S47) (a1_0 : Int) (a1_1 a1_2 : Bool) (a1_3 a2 a3 : Int) (a4 a5 : Bool) : Option Bool :=
  (policy_Eval.f k l0_0 a1_0 a1_1 a1_2 a1_3).bind fun x => (policy_Eval.f k l0_0 (mx a1_0 a2) (a1_1 || a4) (a1_2 || a5) (bits BinOp.or IntKind.i64 a1_3 a3)).bind fun y => (changeforgelaw7_policyExample.f k).bind fun t => if t = true then
    (if l0_0.length ≤ 4398046511104 then (if (l0_0.any fun n => decide (n.f0 = 5)) = true then some true else (if x.2.1 ≠ 0 ∨ y.2.1 ≠ 0 ∨ x.1 = false ∨ y.1 = true then some true else none)) else none) else none
theorem changeforgelaw7_PolicyWithoutNotIsMonotone.mono : ∀ a0 a1 a2 a3 a4 a5 a6 a7 a8 k, LeO (changeforgelaw7_PolicyWithoutNotIsMonotone.f k a0 a1 a2 a3 a4 a5 a6 a7 a8) (changeforgelaw7_PolicyWithoutNotIsMonotone.f (k + 1) a0 a1 a2 a3 a4 a5 a6 a7 a8) := by
  intro a0 a1 a2 a3 a4 a5 a6 a7 a8 k
  unfold changeforgelaw7_PolicyWithoutNotIsMonotone.f
  exact LeO.bind (policy_Eval.mono _ _ _ _ _ _) (fun _ => LeO.bind (policy_Eval.mono _ _ _ _ _ _) (fun _ => LeO.bind (changeforgelaw7_policyExample.mono _) (fun _ => LeO.refl _)))
set_option maxHeartbeats 8000000 in
set_option maxRecDepth 100000 in
theorem changeforgelaw7_PolicyWithoutNotIsMonotone.calls (k : Nat) (A0_0 : Option Addr) (c0_0 : Nat) (l0_0 : List (S47)) (a1_0 : Int) (a1_1 : Bool) (a1_2 : Bool) (a1_3 : Int) (a2 : Int) (a3 : Int) (a4 : Bool) (a5 : Bool) (r : Bool) (w : World) (hr0_0 : Kd.C k47 w A0_0 l0_0.length l0_0) (hc0_0 : l0_0.length ≤ c0_0) (h : changeforgelaw7_PolicyWithoutNotIsMonotone.f k l0_0 a1_0 a1_1 a1_2 a1_3 a2 a3 a4 a5 = some r) :
    Calls Tryd.prog 7 #[.agg #[.slice A0_0 l0_0.length c0_0], .agg #[.int .i64 a1_0, .bool a1_1, .bool a1_2, .int .i64 a1_3], .int .i64 a2, .int .i64 a3, .bool a4, .bool a5] w fun e w' => e = .returned (.bool r) ∧ Below w.heap.size w w' := by
  have hu24 := Tryd.underlying24
  have hu26 := Tryd.underlying26
  have hu28 := Tryd.underlying28
  have hu47 := Tryd.underlying47
  have HB := Aside0.mk (Below.refl w.heap.size w)
  have HR0 := Aside0.mk hr0_0
  have HC0 := Aside0.mk hc0_0
  clear hr0_0 hc0_0
  unfold changeforgelaw7_PolicyWithoutNotIsMonotone.f at h
  replace h := Option.bind_eq_some_iff.mp h
  obtain ⟨⟨x, p1, p2⟩, he1, h⟩ := h
  replace h := Option.bind_eq_some_iff.mp h
  obtain ⟨⟨y, q1, q2⟩, he2, h⟩ := h
  replace h := Option.bind_eq_some_iff.mp h
  obtain ⟨t, hex, h⟩ := h
  have HE1 := Aside0.mk he1
  have HE2 := Aside0.mk he2
  clear he1 he2
  cases t with
  | false => cases h
  | true =>
    have HEX := Aside0.mk hex
    clear hex
    rw [if_pos rfl] at h
    by_cases cl : l0_0.length ≤ 4398046511104
    · rw [if_pos cl] at h
      obtain ⟨rfl, hd⟩ : r = true ∧ ((l0_0.any fun n => decide (n.f0 = 5)) = true ∨ (p1 ≠ 0 ∨ q1 ≠ 0 ∨ x = false ∨ y = true)) := by
        by_cases d1 : (l0_0.any fun n => decide (n.f0 = 5)) = true
        · rw [if_pos d1] at h
          exact ⟨(Option.some.inj h).symm, .inl d1⟩
        · rw [if_neg d1] at h
          by_cases d2 : p1 ≠ 0 ∨ q1 ≠ 0 ∨ x = false ∨ y = true
          · rw [if_pos d2] at h
            exact ⟨(Option.some.inj h).symm, .inr d2⟩
          · rw [if_neg d2] at h
            cases h
      have HDD := Aside0.mk hd
      have HLE := Aside0.mk cl
      clear h hd cl
      go_enter Tryd.func7, Tryd.ntmps7
      go_upto_region 1 with (first | ((with_reducible refine gate_dst (N := 6) rfl ?_); refine box_event ?hg (N := 6) ?hd (cs := #[.slice A0_0 l0_0.length c0_0]) (t := 24) ?hr ?_; (case hd => rfl); (case hg => rfl); (case hr => first | kernel_rfl | (go_simp; done) | (go_simp; rfl)); intro g6 hg wn6 hbox hb; have GE6 : Aside0 (w.heap.size ≤ g6) := Aside0.mk (by rw [hg]; exact HB.out.size); have n0_ := Aside0.mk (below_step HB.out hb); have BK6 := Aside0.mk hbox; clear HB; have HB := n0_; clear n0_ hbox hb hg; (try clear x6_0); have x6_0 := (blk_cell BK6.out 0).trans rfl) | ((with_reducible refine gate_dst (N := 7) rfl ?_); refine box_event ?hg (N := 7) ?hd (cs := #[.int .i64 a1_0, .bool a1_1, .bool a1_2, .int .i64 a1_3]) (t := 26) ?hr ?_; (case hd => rfl); (case hg => rfl); (case hr => first | kernel_rfl | (go_simp; done) | (go_simp; rfl)); intro g7 hg wn7 hbox hb; have GE7 : Aside0 (w.heap.size ≤ g7) := Aside0.mk (by rw [hg]; exact HB.out.size); have NE7_6 : Aside0 (g7 ≠ g6) := Aside0.mk (by rw [hg]; exact Nat.ne_of_gt (blk_lt BK6.out)); have n6_ := Aside0.mk (blk_below BK6.out hb); have n0_ := Aside0.mk (below_step HB.out hb); have BK7 := Aside0.mk hbox; clear BK6; have BK6 := n6_; clear n6_; clear HB; have HB := n0_; clear n0_ hbox hb hg; (try clear x6_0); have x6_0 := (blk_cell BK6.out 0).trans rfl; (try clear x7_0); have x7_0 := (blk_cell BK7.out 0).trans rfl; (try clear x7_1); have x7_1 := (blk_cell BK7.out 1).trans rfl; (try clear x7_2); have x7_2 := (blk_cell BK7.out 2).trans rfl; (try clear x7_3); have x7_3 := (blk_cell BK7.out 3).trans rfl) | fail)
      (try simp only [Act.put, List.setIfInBounds_toArray, List.set_cons_zero, List.set_cons_succ])
      go_cut [13] (fun v13 wx => ∃ g13, v13 = .pointer (some ⟨g13, 0, none⟩) ∧ Aside0 (wx.heap[g6]? = some (.cells #[.slice A0_0 l0_0.length c0_0] 24 (0, 0))) ∧ Aside0 (wx.heap[g7]? = some (.cells #[.int .i64 a1_0, .bool a1_1, .bool a1_2, .int .i64 a1_3] 26 (0, 0))) ∧ Aside0 (wx.heap[g13]? = some (.cells #[.int .i64 (mx a1_0 a2), .bool (a1_1 || a4), .bool (a1_2 || a5), .int .i64 (bits BinOp.or IntKind.i64 a1_3 a3)] 26 (0, 0))) ∧ Aside0 (Below w.heap.size w wx))
      case first =>
        clear HE1 HE2
        by_cases hm : a1_0 < a2
        · have hmx : mx a1_0 a2 = a2 := by unfold mx; rw [if_pos hm]
          have hmd : decide (a1_0 < a2) = true := decide_eq_true hm
          cases a1_1 <;> cases a1_2
          all_goals go_wp2_with fail
          all_goals go_meet
          all_goals (first | rw [hmx] | skip)
          all_goals exact ⟨_, rfl, ⟨blk_alloc BK6.out _⟩, ⟨blk_alloc BK7.out _⟩, ⟨blk_new _ _⟩, ⟨below_alloc HB.out _⟩⟩
        · have hmx : mx a1_0 a2 = a1_0 := by unfold mx; rw [if_neg hm]
          have hmd : decide (a1_0 < a2) = false := decide_eq_false hm
          cases a1_1 <;> cases a1_2
          all_goals go_wp2_with fail
          all_goals go_meet
          all_goals (first | rw [hmx] | skip)
          all_goals exact ⟨_, rfl, ⟨blk_alloc BK6.out _⟩, ⟨blk_alloc BK7.out _⟩, ⟨blk_new _ _⟩, ⟨below_alloc HB.out _⟩⟩
      case rest =>
        clear BK6 BK7 HB NE7_6 x6_0 x7_0 x7_1 x7_2 x7_3
        obtain ⟨g13, rfl, BK6, BK7, BK13, HB⟩ := hcut
        (try clear x6_0)
        have x6_0 := (blk_cell BK6.out 0).trans rfl
        (try clear x7_0)
        have x7_0 := (blk_cell BK7.out 0).trans rfl
        (try clear x7_1)
        have x7_1 := (blk_cell BK7.out 1).trans rfl
        (try clear x7_2)
        have x7_2 := (blk_cell BK7.out 2).trans rfl
        (try clear x7_3)
        have x7_3 := (blk_cell BK7.out 3).trans rfl
        (try clear x13_0)
        have x13_0 := (blk_cell BK13.out 0).trans rfl
        (try clear x13_1)
        have x13_1 := (blk_cell BK13.out 1).trans rfl
        (try clear x13_2)
        have x13_2 := (blk_cell BK13.out 2).trans rfl
        (try clear x13_3)
        have x13_3 := (blk_cell BK13.out 3).trans rfl
        go_wp2_with (first | ((with_reducible refine gate_callee (f := 10) rfl ?_); refine goesL_ (some 41) rfl rfl Tryd.func10 (by kernel_rfl) rfl #[.agg #[.slice A0_0 l0_0.length c0_0], .agg #[.int .i64 a1_0, .bool a1_1, .bool a1_2, .int .i64 a1_3]] rfl (by (try simp only [List.map_toArray, List.map_cons, List.map_nil]); first | done | rfl) ?_; refine (policy_Eval.calls k A0_0 c0_0 l0_0 a1_0 a1_1 a1_2 a1_3 _ _ _ _ (Kd.C_below HR0.out HB.out) HC0.out HE1.out).mono ?_; rintro e w4 ⟨rfl, hb⟩; refine ⟨_, rfl, ?_⟩; have n6_ := Aside0.mk (blk_below BK6.out hb); have n13_ := Aside0.mk (blk_below BK13.out hb); have n0_ := Aside0.mk (below_step HB.out hb); clear BK6; have BK6 := n6_; clear n6_; clear BK13; have BK13 := n13_; clear n13_; clear HB; have HB := n0_; clear n0_ hb; (try clear x6_0); have x6_0 := (blk_cell BK6.out 0).trans rfl; (try clear x13_0); have x13_0 := (blk_cell BK13.out 0).trans rfl; (try clear x13_1); have x13_1 := (blk_cell BK13.out 1).trans rfl; (try clear x13_2); have x13_2 := (blk_cell BK13.out 2).trans rfl; (try clear x13_3); have x13_3 := (blk_cell BK13.out 3).trans rfl) | ((with_reducible refine gate_dst (N := 15) rfl ?_); refine box_event ?hg (N := 15) ?hd (cs := #[.int .i64 0, .int .i64 0]) (t := 28) ?hr ?_; (case hd => rfl); (case hg => rfl); (case hr => first | kernel_rfl | (go_simp; done) | (go_simp; rfl)); intro g15 hg wn15 hbox hb; have GE15 : Aside0 (w.heap.size ≤ g15) := Aside0.mk (by rw [hg]; exact HB.out.size); have NE15_6 : Aside0 (g15 ≠ g6) := Aside0.mk (by rw [hg]; exact Nat.ne_of_gt (blk_lt BK6.out)); have NE15_13 : Aside0 (g15 ≠ g13) := Aside0.mk (by rw [hg]; exact Nat.ne_of_gt (blk_lt BK13.out)); have n6_ := Aside0.mk (blk_below BK6.out hb); have n13_ := Aside0.mk (blk_below BK13.out hb); have n0_ := Aside0.mk (below_step HB.out hb); have BK15 := Aside0.mk hbox; clear BK6; have BK6 := n6_; clear n6_; clear BK13; have BK13 := n13_; clear n13_; clear HB; have HB := n0_; clear n0_ hbox hb hg) | ((with_reducible refine gate_storeV (ty := 28) (x := .tmp 15) (y := .tmp 43) rfl ?_); refine store_eventV rfl 28 (.tmp 15) (.tmp 43) rfl g15 _ rfl rfl 28 _ BK15.out (by kernel_rfl) rfl (by simp [Value.oneCell']) ?_; intro ws15_43 hn ho hb; have n6_ := Aside0.mk ((ho _ (Ne.symm NE15_6.out)).trans BK6.out); have n13_ := Aside0.mk ((ho _ (Ne.symm NE15_13.out)).trans BK13.out); have n0_ := Aside0.mk (hb _ _ GE15.out HB.out); have nn_ := Aside0.mk hn; clear BK6; have BK6 := n6_; clear n6_; clear BK13; have BK13 := n13_; clear n13_; clear HB BK15; have HB := n0_; have BK15 := nn_; clear n0_ nn_ hn ho hb; (try clear x6_0); have x6_0 := (blk_cell BK6.out 0).trans rfl; (try clear x13_0); have x13_0 := (blk_cell BK13.out 0).trans rfl; (try clear x13_1); have x13_1 := (blk_cell BK13.out 1).trans rfl; (try clear x13_2); have x13_2 := (blk_cell BK13.out 2).trans rfl; (try clear x13_3); have x13_3 := (blk_cell BK13.out 3).trans rfl; (try clear x15_0); have x15_0 := (blk_cell BK15.out 0).trans rfl; (try clear x15_1); have x15_1 := (blk_cell BK15.out 1).trans rfl) | ((with_reducible refine gate_callee (f := 10) rfl ?_); refine goesL_ (some 47) rfl rfl Tryd.func10 (by kernel_rfl) rfl #[.agg #[.slice A0_0 l0_0.length c0_0], .agg #[.int .i64 (mx a1_0 a2), .bool (a1_1 || a4), .bool (a1_2 || a5), .int .i64 (bits BinOp.or IntKind.i64 a1_3 a3)]] rfl (by (try simp only [List.map_toArray, List.map_cons, List.map_nil]); first | done | rfl) ?_; refine (policy_Eval.calls k A0_0 c0_0 l0_0 (mx a1_0 a2) (a1_1 || a4) (a1_2 || a5) (bits BinOp.or IntKind.i64 a1_3 a3) _ _ _ _ (Kd.C_below HR0.out HB.out) HC0.out HE2.out).mono ?_; rintro e w4 ⟨rfl, hb⟩; refine ⟨_, rfl, ?_⟩; have n6_ := Aside0.mk (blk_below BK6.out hb); have n15_ := Aside0.mk (blk_below BK15.out hb); have n0_ := Aside0.mk (below_step HB.out hb); clear BK6; have BK6 := n6_; clear n6_; clear BK15; have BK15 := n15_; clear n15_; clear HB; have HB := n0_; clear n0_ hb; (try clear x6_0); have x6_0 := (blk_cell BK6.out 0).trans rfl; (try clear x15_0); have x15_0 := (blk_cell BK15.out 0).trans rfl; (try clear x15_1); have x15_1 := (blk_cell BK15.out 1).trans rfl) | ((with_reducible refine gate_dst (N := 17) rfl ?_); refine box_event ?hg (N := 17) ?hd (cs := #[.int .i64 0, .int .i64 0]) (t := 28) ?hr ?_; (case hd => rfl); (case hg => rfl); (case hr => first | kernel_rfl | (go_simp; done) | (go_simp; rfl)); intro g17 hg wn17 hbox hb; have GE17 : Aside0 (w.heap.size ≤ g17) := Aside0.mk (by rw [hg]; exact HB.out.size); have NE17_6 : Aside0 (g17 ≠ g6) := Aside0.mk (by rw [hg]; exact Nat.ne_of_gt (blk_lt BK6.out)); have NE17_15 : Aside0 (g17 ≠ g15) := Aside0.mk (by rw [hg]; exact Nat.ne_of_gt (blk_lt BK15.out)); have n6_ := Aside0.mk (blk_below BK6.out hb); have n15_ := Aside0.mk (blk_below BK15.out hb); have n0_ := Aside0.mk (below_step HB.out hb); have BK17 := Aside0.mk hbox; clear BK6; have BK6 := n6_; clear n6_; clear BK15; have BK15 := n15_; clear n15_; clear HB; have HB := n0_; clear n0_ hbox hb hg) | ((with_reducible refine gate_storeV (ty := 28) (x := .tmp 17) (y := .tmp 49) rfl ?_); refine store_eventV rfl 28 (.tmp 17) (.tmp 49) rfl g17 _ rfl rfl 28 _ BK17.out (by kernel_rfl) rfl (by simp [Value.oneCell']) ?_; intro ws17_49 hn ho hb; have n6_ := Aside0.mk ((ho _ (Ne.symm NE17_6.out)).trans BK6.out); have n15_ := Aside0.mk ((ho _ (Ne.symm NE17_15.out)).trans BK15.out); have n0_ := Aside0.mk (hb _ _ GE17.out HB.out); have nn_ := Aside0.mk hn; clear BK6; have BK6 := n6_; clear n6_; clear BK15; have BK15 := n15_; clear n15_; clear HB BK17; have HB := n0_; have BK17 := nn_; clear n0_ nn_ hn ho hb; (try clear x6_0); have x6_0 := (blk_cell BK6.out 0).trans rfl; (try clear x15_0); have x15_0 := (blk_cell BK15.out 0).trans rfl; (try clear x15_1); have x15_1 := (blk_cell BK15.out 1).trans rfl; (try clear x17_0); have x17_0 := (blk_cell BK17.out 0).trans rfl; (try clear x17_1); have x17_1 := (blk_cell BK17.out 1).trans rfl) | ((with_reducible refine gate_callee (f := 12) rfl ?_); refine goesL_ (some 50) rfl rfl Tryd.func12 (by kernel_rfl) rfl #[] rfl (by (try simp only [List.map_toArray, List.map_cons, List.map_nil]); first | done | rfl) ?_; refine (changeforgelaw7_policyExample.calls k _ _ HEX.out).mono ?_; rintro e w4 ⟨rfl, hb⟩; refine ⟨_, rfl, ?_⟩; have n6_ := Aside0.mk (blk_below BK6.out hb); have n15_ := Aside0.mk (blk_below BK15.out hb); have n17_ := Aside0.mk (blk_below BK17.out hb); have n0_ := Aside0.mk (below_step HB.out hb); clear BK6; have BK6 := n6_; clear n6_; clear BK15; have BK15 := n15_; clear n15_; clear BK17; have BK17 := n17_; clear n17_; clear HB; have HB := n0_; clear n0_ hb; (try clear x6_0); have x6_0 := (blk_cell BK6.out 0).trans rfl; (try clear x15_0); have x15_0 := (blk_cell BK15.out 0).trans rfl; (try clear x15_1); have x15_1 := (blk_cell BK15.out 1).trans rfl; (try clear x17_0); have x17_0 := (blk_cell BK17.out 0).trans rfl; (try clear x17_1); have x17_1 := (blk_cell BK17.out 1).trans rfl) | fail)
        go_loopg [18] l0_0.length (fun kq v18 w' => ∃ (done rest : List S47), v18 = .int .i64 (done.length : Int) ∧ Aside0 (rest.length = kq) ∧ Aside0 (l0_0 = done ++ rest) ∧ Aside0 ((done.any fun n => decide (n.f0 = 5)) = false) ∧ Aside0 (w'.heap[g6]? = some (.cells #[.slice A0_0 l0_0.length c0_0] 24 (0, 0))) ∧ Aside0 (w'.heap[g15]? = some (.cells #[.int .i64 p1, .int .i64 p2] 28 (0, 0))) ∧ Aside0 (w'.heap[g17]? = some (.cells #[.int .i64 q1, .int .i64 q2] 28 (0, 0))) ∧ Aside0 (Below w.heap.size w w'))
        case atStart => exact ⟨[], l0_0, rfl, ⟨rfl⟩, ⟨rfl⟩, ⟨rfl⟩, BK6, BK15, BK17, HB⟩
        case round =>
          clear BK6 BK15 BK17 HB HE1 HE2 HEX
          obtain ⟨done, rest, rfl, HK, HL, HN, BK6, BK15, BK17, HB⟩ := hrel
          (try clear x6_0)
          have x6_0 := (blk_cell BK6.out 0).trans rfl
          (try clear x15_0)
          have x15_0 := (blk_cell BK15.out 0).trans rfl
          (try clear x15_1)
          have x15_1 := (blk_cell BK15.out 1).trans rfl
          (try clear x17_0)
          have x17_0 := (blk_cell BK17.out 0).trans rfl
          (try clear x17_1)
          have x17_1 := (blk_cell BK17.out 1).trans rfl
          cases rest with
          | nil =>
            have hx : decide ((done.length : Int) < (l0_0.length : Int)) = false := decide_eq_false (by rw [HL.out]; simp)
            have hxn : ¬ done.length < l0_0.length := by rw [HL.out]; simp
            have hd := HDD.out
            rw [HL.out, List.append_nil, HN.out] at hd
            have hd2 : p1 ≠ 0 ∨ q1 ≠ 0 ∨ x = false ∨ y = true := hd.elim (fun e => by cases e) (fun e => e)
            clear HDD hd HL HN HK
            by_cases d1 : p1 = 0
            · have d1b : (p1 != 0) = false := bne_eq_false_iff_eq.mpr d1
              by_cases d2 : q1 = 0
              · have d2b : (q1 != 0) = false := bne_eq_false_iff_eq.mpr d2
                cases x with
                | false =>
                  clear hd2 d1 d2
                  go_wp2_with fail
                  go_ret
                  exact ⟨by first | rfl | simp, HB.out⟩
                | true =>
                  have d3 : y = true := by
                    rcases hd2 with e | e | e | e
                    · exact absurd d1 e
                    · exact absurd d2 e
                    · cases e
                    · exact e
                  subst d3
                  clear hd2 d1 d2
                  go_wp2_with fail
                  go_ret
                  exact ⟨by first | rfl | simp, HB.out⟩
              · have d2b : (q1 != 0) = true := bne_iff_ne.mpr d2
                clear hd2 d1 d2
                go_wp2_with fail
                go_ret
                exact ⟨by first | rfl | simp, HB.out⟩
            · have d1b : (p1 != 0) = true := bne_iff_ne.mpr d1
              clear hd2 d1
              go_wp2_with fail
              go_ret
              exact ⟨by first | rfl | simp, HB.out⟩
          | cons n t =>
            have hjl : done.length + (t.length + 1) = l0_0.length := by rw [HL.out, List.length_append, List.length_cons]
            have hx : decide ((done.length : Int) < (l0_0.length : Int)) = true := decide_eq_true (by omega)
            have hxn : done.length < l0_0.length := by omega
            have hxp : (done.length : Int) < (l0_0.length : Int) := by omega
            have hx0 : (0 : Int) ≤ (done.length : Int) := by omega
            obtain ⟨kz, hkz⟩ : ∃ kz, gk = kz + 1 := ⟨t.length, by have := HK.out; rw [List.length_cons] at this; omega⟩
            have HK1 : Aside0 (t.length = kz) := ⟨by have := HK.out; rw [List.length_cons] at this; omega⟩
            have hw1 : Aside0 (wrap64 ((done.length : Int) + 1) = ((done ++ [n]).length : Int)) := ⟨by
              rw [List.length_append, List.length_singleton]
              have := HLE.out
              unfold wrap64
              omega⟩
            obtain ⟨ad, hA, y0, _, _, _⟩ := at_T47 (Kd.C_below HR0.out HB.out) (done.length : Int) hx0 hxp
            have he : rd_T47 l0_0 (done.length : Int) = n := by rw [HL.out]; exact at_mid47 _ _ _
            rw [he] at y0
            rw [Int.toNat_natCast] at y0
            clear he hjl
            subst hA
            by_cases d : n.f0 = 5
            · have db : (n.f0 == 5) = true := beq_iff_eq.mpr d
              clear d
              go_wp2_with fail
              go_ret
              exact ⟨by first | rfl | simp, HB.out⟩
            · have db : (n.f0 == 5) = false := beq_eq_false_iff_ne.mpr d
              have HN2 : Aside0 (((done ++ [n]).any fun n => decide (n.f0 = 5)) = false) := ⟨by rw [List.any_append, HN.out]; simp [d]⟩
              clear d
              go_wp2_with fail
              go_roundg kz
              case measure => omega
              case rel => exact ⟨done ++ [n], t, by first | exact congrArg _ hw1.out | (rw [List.length_append, List.length_singleton]; rfl), HK1, ⟨by rw [HL.out, List.append_assoc]; rfl⟩, HN2, BK6, BK15, BK17, HB⟩
    · rw [if_neg cl] at h
      cases h
end Go.Proofs.YtblkkhddefnkpaaDoor.PPo
