/- What Reversed does: the hunks turned round, the places by Trace. By hand. -/
import Derived.Test.YtbkdaofddnkaaaaTr
namespace Go.Proofs.Ytbkdaofddnkaaaa.PAm
open Go.RowKit Go.Proofs.YtbkdaofddnkaaaaW.PrintWords Go.Proofs.YtbkdaofddnkaaaaW.PrintLast Go.Proofs.YtbkdaofddnkaaaaW.PrintMore
attribute [local go_sem] max2_int min2_int max_two min_two max_three min_three max_four min_four
attribute [local go_sem] World.cell?_alloc_some
set_option linter.unusedVariables false
set_option linter.unusedSimpArgs false

theorem gate_storeV {P : Program} {ops : Array Oper} {rest : List Oper} {o : Oper} {a : Act} {W : World} {Q : Exit → Act → World → Prop} {ty : TypeId} {x y : Operand} (_ho : o.op = .store ty x y) (h : wpList P ops Q (o :: rest) a W) : wpList P ops Q (o :: rest) a W := h
theorem store_eventV {P : Program} {ops : Array Oper} {rest : List Oper} {o : Oper} {a : Act} {w : World} {Q : Exit → Act → World → Prop} (hgd : o.guard = none) (ty : TypeId) (x y : Operand) (ho : o.op = .store ty x y)
    (g : Nat) (cells : Array Value) (hx : a.eval x = .pointer (some ⟨g, 0, none⟩)) (hy : a.eval y = .agg cells)
    (t : TypeId) (old : Array Value) (hg : w.heap[g]? = some (.cells old t (0, 0))) (hi : (P.info? ty).map (·.size) = some cells.size)
    (hold : old.size = cells.size) (h1 : cells.all (·.oneCell') = true)
    (h : ∀ w' : World, w'.heap[g]? = some (.cells cells t (0, 0)) → (∀ k, k ≠ g → w'.heap[k]? = w.heap[k]?) → (∀ (B : Nat) (w0 : World), B ≤ g → Below B w0 w → Below B w0 w') → wpList P ops Q rest (a.put o.dst undef) w') : wpList P ops Q (o :: rest) a w :=
  wpList_store_row hgd ty x y ho g cells hx hy t old hg hi hold h1 (h _ (setRow_heap w g old cells t (0, 0) hg) (fun k hk => setRow_other w g k cells hk) (fun B w0 hB hb => below_setRow hb hB cells))
theorem results_ct {P : Program} {fn : Func} {p u : Tmp} {ty : TypeId} (h : fn.results = #[.cell p ty, .tmp u]) (tmps : Array Value) (w : World) (g : Nat) (t : TypeId) (cs : Array Value) (fr : Nat × Nat) (d : TypeDesc)
    (hp : tmps.getD p undef = .pointer (some ⟨g, 0, none⟩)) (hg : w.heap[g]? = some (.cells cs t fr))
    (hu : P.underlying ty = some d) (hd : (match d with | .struct _ | .array _ _ => true | _ => false) = true) (hi : (P.info? ty).map (·.size) = some cs.size) :
    (results fn tmps).run P w = .ok (.tuple #[.agg cs, tmps.getD u undef]) w := by
  have h1 : tmps[p]?.getD undef = .pointer (some ⟨g, 0, none⟩) := by simpa using hp
  simp [results, h, h1, asAddr, run_loadVar_row w g t ty cs fr d hg hu hd hi]
theorem infoT57 : (Try.prog.info? 57).map (fun i => (i.zero, i.size, i.bytes)) = some (some (.agg #[.int .i64 0, .slice none 0 0, .slice none 0 0]), 3, 56) := by kernel_rfl
theorem up_len : ∀ (c : Nat) (n : Int), (up c n).length = c
  | 0, _ => rfl
  | c + 1, n => by simp only [up, List.length_cons, up_len c]
theorem trL_len : ∀ (hs : List S57) (o : Nat) (n : Int), trOk o hs = true → o + (trL hs o n).length = 130
  | [], o, n, h => by
    have h_ : o ≤ 130 := by simpa [trOk] using h
    simp only [trL, up_len]
    omega
  | h :: t, o, n, hk => by
    simp only [trOk, Bool.and_eq_true, decide_eq_true_eq] at hk
    obtain ⟨⟨a, b, c⟩, d⟩ := hk
    have ih := trL_len t (h.f0.toNat + h.f1.length) (n + ((h.f0.toNat - o : Nat) : Int) + (h.f2.length : Int)) d
    simp only [trL, List.length_append, up_len, List.length_replicate]
    omega
theorem pc_at {T : List (Int × Bool)} (hT : T.length = 130) {i : Nat} (h : i < 130) : (pc T)[i]? = some (.int .i64 (T.getD i (0, false)).1) := by
  have hi : i < T.length := by omega
  simp [pc, List.getElem?_append_left, hi, List.getD_eq_getElem?_getD]
theorem kc_at {T : List (Int × Bool)} (hT : T.length = 130) {i : Nat} (h : i < 130) : (kc T)[i]? = some (.bool (T.getD i (0, false)).2) := by
  have hi : i < T.length := by omega
  simp [kc, List.getElem?_append_left, hi, List.getD_eq_getElem?_getD]
theorem at_T57F {w : World} {ok : Nat → Prop} {A : Option Addr} {n : Nat} {xs : List S57} (h : Kd.F k57 w ok A n xs) (i : Int) (h0 : 0 ≤ i) (h1 : i < n) : ∃ ad A1 c1 A2 c2, A = some ad ∧ w.cell? (ad.add (i.toNat * 3)) = some (.int .i64 (rd_T57 xs i).f0) ∧ w.cell? ⟨(ad.add (i.toNat * 3)).block, (ad.add (i.toNat * 3)).off + 1, none⟩ = some (.slice A1 (rd_T57 xs i).f1.length c1) ∧ w.cell? ⟨(ad.add (i.toNat * 3)).block, (ad.add (i.toNat * 3)).off + 2, none⟩ = some (.slice A2 (rd_T57 xs i).f2.length c2) ∧ (rd_T57 xs i).f1.length ≤ c1 ∧ Kd.F Kd.string w ok A1 (rd_T57 xs i).f1.length (rd_T57 xs i).f1 ∧ (rd_T57 xs i).f2.length ≤ c2 ∧ Kd.F Kd.string w ok A2 (rd_T57 xs i).f2.length (rd_T57 xs i).f2 := by
  obtain ⟨ad, c, e, _, hK, hc0, _⟩ := Kd.F_get h z57 i h0 h1
  have hc : ∀ j u, c[j]? = some u → w.cell? (ad.add (i.toNat * 3 + j)) = some u := hc0
  obtain ⟨A1, c1, A2, c2, rfl, l1, g1, l2, g2⟩ := k57_openF hK
  exact ⟨ad, A1, c1, A2, c2, e, hc 0 _ rfl, by rw [← add_field _ _ 1 (by omega)]; exact hc 1 _ rfl, by rw [← add_field _ _ 2 (by omega)]; exact hc 2 _ rfl, l1, g1, l2, g2⟩
def revAt (T : List (Int × Bool)) (h : S57) : Int := if 0 < h.f1.length then (T.getD h.f0.toNat (0, false)).1 else wrap64 ((T.getD h.f0.toNat (0, false)).1 - (h.f2.length : Int))
def revs (T : List (Int × Bool)) (hs : List S57) : List S57 := hs.map fun h => ⟨revAt T h, h.f2, h.f1⟩
def revOk (T : List (Int × Bool)) (hs : List S57) : Bool := hs.all fun h => decide (wrap64 (revAt T h + (h.f2.length : Int)) ≤ 120)
def revPre (hs : List S57) : Bool := trOk 0 hs && decide (hs.length ≤ 1000) && hs.all fun h => decide (0 ≤ h.f0 ∧ h.f0 < 130)
def changeforgeref7_Reversed.f (k : Nat) (l0_0 : List S57) : Option (List S57 × Bool) := if revPre l0_0 = true then some (revs (trL l0_0 0 0) l0_0, revOk (trL l0_0 0 0) l0_0) else none
theorem changeforgeref7_Reversed.mono : ∀ l0_0 k, LeO (changeforgeref7_Reversed.f k l0_0) (changeforgeref7_Reversed.f (k + 1) l0_0) := fun _ _ => LeO.refl _
theorem revs_snoc (T : List (Int × Bool)) (a : List S57) (h : S57) : revs T (a ++ [h]) = revs T a ++ [⟨revAt T h, h.f2, h.f1⟩] := by simp [revs]
theorem revOk_snoc (T : List (Int × Bool)) (a : List S57) (h : S57) : revOk T (a ++ [h]) = (revOk T a && decide (wrap64 (revAt T h + (h.f2.length : Int)) ≤ 120)) := by simp [revOk]
set_option maxHeartbeats 8000000 in
set_option maxRecDepth 100000 in
theorem changeforgeref7_Reversed.calls (k : Nat) (A0 : Option Addr) (c0 : Nat) (hs : List S57) (r1 : List S57) (r2 : Bool) (w : World) (P : Nat → Prop) (hr0 : Kd.F k57 w P A0 hs.length hs) (hc0 : hs.length ≤ c0) (h : changeforgeref7_Reversed.f k hs = some (r1, r2)) :
    Calls Try.prog 32 #[.agg #[.slice A0 hs.length c0]] w fun e w' => ∃ v0_ : Value, e = .returned (.tuple #[.agg #[v0_], .bool r2]) ∧ Kd.N k57 57 w' w.heap.size (fun k => P k ∨ w.heap.size ≤ k) v0_ r1 ∧ Below w.heap.size w w' := by
  have hu45 := Try.underlying45
  have hu51 := Try.underlying51
  have hu52 := Try.underlying52
  have hu57 := Try.underlying57
  have HR0 := Aside0.mk hr0
  have HC0 := Aside0.mk hc0
  clear hr0 hc0
  unfold changeforgeref7_Reversed.f at h
  by_cases hq : revPre hs = true
  · rw [if_pos hq] at h
    have hr := Option.some.inj h
    clear h
    unfold revPre at hq
    simp only [Bool.and_eq_true, decide_eq_true_eq] at hq
    obtain ⟨⟨q1, q2⟩, q3⟩ := hq
    have OK1 := Aside0.mk q1
    have OK2 := Aside0.mk q2
    have OK3 := Aside0.mk q3
    clear q1 q2 q3
    obtain ⟨T, hT⟩ : ∃ T, trL hs 0 0 = T := ⟨_, rfl⟩
    have HTL : Aside0 (T.length = 130) := ⟨by have h_ := trL_len hs 0 0 OK1.out; rw [hT, Nat.zero_add] at h_; exact h_⟩
    have HTLE : Aside0 (T.length ≤ 130) := ⟨Nat.le_of_eq HTL.out⟩
    rw [hT] at hr
    have HT := Aside0.mk hT
    obtain ⟨rfl, rfl⟩ := Prod.mk.inj hr
    clear hT hr
    have HB := Aside0.mk (Below.refl w.heap.size w)
    go_enter Try.func32, Try.ntmps32
    go_wp2_with (first | ((with_reducible refine gate_dst (N := 1) rfl ?_); refine box_event ?hg (N := 1) ?hd (cs := #[.slice A0 hs.length c0]) (t := 45) ?hr ?_; (case hd => rfl); (case hg => rfl); (case hr => first | kernel_rfl | (go_simp; done) | (go_simp; rfl)); intro g1 hg wn1 hbox hb; have GE1 : Aside0 (w.heap.size ≤ g1) := Aside0.mk (by rw [hg]; exact HB.out.size); have n0_ := Aside0.mk (below_step HB.out hb); have BK1 := Aside0.mk hbox; clear HB; have HB := n0_; clear n0_ hbox hb hg) | ((with_reducible refine gate_dst (N := 2) rfl ?_); refine box_event ?hg (N := 2) ?hd (cs := #[.slice none 0 0]) (t := 45) ?hr ?_; (case hd => rfl); (case hg => rfl); (case hr => first | kernel_rfl | (go_simp; done) | (go_simp; rfl)); intro g2 hg wn2 hbox hb; have GE2 : Aside0 (w.heap.size ≤ g2) := Aside0.mk (by rw [hg]; exact HB.out.size); have NE2_1 : Aside0 (g2 ≠ g1) := Aside0.mk (by rw [hg]; exact Nat.ne_of_gt (blk_lt BK1.out)); have n1_ := Aside0.mk (blk_below BK1.out hb); have n0_ := Aside0.mk (below_step HB.out hb); have BK2 := Aside0.mk hbox; clear BK1; have BK1 := n1_; clear n1_; clear HB; have HB := n0_; clear n0_ hbox hb hg) | ((with_reducible refine gate_dst (N := 4) rfl ?_); refine box_event ?hg (N := 4) ?hd (cs := #[.slice none 0 0]) (t := 45) ?hr ?_; (case hd => rfl); (case hg => rfl); (case hr => first | kernel_rfl | (go_simp; done) | (go_simp; rfl)); intro g4 hg wn4 hbox hb; have GE4 : Aside0 (w.heap.size ≤ g4) := Aside0.mk (by rw [hg]; exact HB.out.size); have NE4_1 : Aside0 (g4 ≠ g1) := Aside0.mk (by rw [hg]; exact Nat.ne_of_gt (blk_lt BK1.out)); have NE4_2 : Aside0 (g4 ≠ g2) := Aside0.mk (by rw [hg]; exact Nat.ne_of_gt (blk_lt BK2.out)); have n1_ := Aside0.mk (blk_below BK1.out hb); have n2_ := Aside0.mk (blk_below BK2.out hb); have n0_ := Aside0.mk (below_step HB.out hb); have BK4 := Aside0.mk hbox; clear BK1; have BK1 := n1_; clear n1_; clear BK2; have BK2 := n2_; clear n2_; clear HB; have HB := n0_; clear n0_ hbox hb hg; have x10 := (blk_cell BK1.out 0).trans rfl) | ((with_reducible refine gate_callee (f := 28) rfl ?_); refine goesL_ (some 13) rfl rfl Try.func28 (by kernel_rfl) rfl #[.agg #[.slice A0 hs.length c0]] rfl (by (try simp only [List.map_toArray, List.map_cons, List.map_nil]); first | done | rfl) ?_; refine (changeforgeref7_Trace.calls A0 c0 hs _ (Kd.F_now (Kd.F_below HR0.out HB.out)) HC0.out OK1.out OK2.out).mono ?_; rintro e w4 ⟨rfl, hb⟩; refine ⟨_, rfl, ?_⟩; have n0_ := Aside0.mk (below_step HB.out hb); have n1_ := Aside0.mk (blk_below BK1.out hb); have n2_ := Aside0.mk (blk_below BK2.out hb); have n4_ := Aside0.mk (blk_below BK4.out hb); clear HB BK1 BK2 BK4 x10; have HB := n0_; have BK1 := n1_; have BK2 := n2_; have BK4 := n4_; clear n0_ n1_ n2_ n4_ hb; rw [HT.out]) | ((with_reducible refine gate_dst (N := 5) rfl ?_); refine box_event ?hg (N := 5) ?hd (cs := pc []) (t := 51) ?hr ?_; (case hd => rfl); (case hg => rfl); (case hr => first | kernel_rfl | (go_simp; done) | (go_simp; rfl)); intro g5 hg wn5 hbox hb; have GE5 : Aside0 (w.heap.size ≤ g5) := Aside0.mk (by rw [hg]; exact HB.out.size); have NE5_1 : Aside0 (g5 ≠ g1) := Aside0.mk (by rw [hg]; exact Nat.ne_of_gt (blk_lt BK1.out)); have NE5_2 : Aside0 (g5 ≠ g2) := Aside0.mk (by rw [hg]; exact Nat.ne_of_gt (blk_lt BK2.out)); have NE5_4 : Aside0 (g5 ≠ g4) := Aside0.mk (by rw [hg]; exact Nat.ne_of_gt (blk_lt BK4.out)); have n1_ := Aside0.mk (blk_below BK1.out hb); have n2_ := Aside0.mk (blk_below BK2.out hb); have n4_ := Aside0.mk (blk_below BK4.out hb); have n0_ := Aside0.mk (below_step HB.out hb); have BK5 := Aside0.mk hbox; clear BK1; have BK1 := n1_; clear n1_; clear BK2; have BK2 := n2_; clear n2_; clear BK4; have BK4 := n4_; clear n4_; clear HB; have HB := n0_; clear n0_ hbox hb hg) | ((with_reducible refine gate_dst (N := 6) rfl ?_); refine box_event ?hg (N := 6) ?hd (cs := kc []) (t := 52) ?hr ?_; (case hd => rfl); (case hg => rfl); (case hr => first | kernel_rfl | (go_simp; done) | (go_simp; rfl)); intro g6 hg wn6 hbox hb; have GE6 : Aside0 (w.heap.size ≤ g6) := Aside0.mk (by rw [hg]; exact HB.out.size); have NE6_1 : Aside0 (g6 ≠ g1) := Aside0.mk (by rw [hg]; exact Nat.ne_of_gt (blk_lt BK1.out)); have NE6_2 : Aside0 (g6 ≠ g2) := Aside0.mk (by rw [hg]; exact Nat.ne_of_gt (blk_lt BK2.out)); have NE6_4 : Aside0 (g6 ≠ g4) := Aside0.mk (by rw [hg]; exact Nat.ne_of_gt (blk_lt BK4.out)); have NE6_5 : Aside0 (g6 ≠ g5) := Aside0.mk (by rw [hg]; exact Nat.ne_of_gt (blk_lt BK5.out)); have n1_ := Aside0.mk (blk_below BK1.out hb); have n2_ := Aside0.mk (blk_below BK2.out hb); have n4_ := Aside0.mk (blk_below BK4.out hb); have n5_ := Aside0.mk (blk_below BK5.out hb); have n0_ := Aside0.mk (below_step HB.out hb); have BK6 := Aside0.mk hbox; clear BK1; have BK1 := n1_; clear n1_; clear BK2; have BK2 := n2_; clear n2_; clear BK4; have BK4 := n4_; clear n4_; clear BK5; have BK5 := n5_; clear n5_; clear HB; have HB := n0_; clear n0_ hbox hb hg) | ((with_reducible refine gate_storeV (ty := 51) (x := .tmp 5) (y := .tmp 14) rfl ?_); refine store_eventV rfl 51 (.tmp 5) (.tmp 14) rfl g5 (pc T) rfl rfl 51 (pc []) BK5.out (by rw [pc_size HTLE.out]; kernel_rfl) (by rw [pc_size (show ([] : List (Int × Bool)).length ≤ 130 from by decide), pc_size HTLE.out]) (pc_one T) ?_; intro ws5 hn ho hb; have n1_ := Aside0.mk ((ho _ (blk_ne BK1.out BK5.out (by decide))).trans BK1.out); have n2_ := Aside0.mk ((ho _ (blk_ne BK2.out BK5.out (by decide))).trans BK2.out); have n4_ := Aside0.mk ((ho _ (blk_ne BK4.out BK5.out (by decide))).trans BK4.out); have n6_ := Aside0.mk ((ho _ (blk_ne BK6.out BK5.out (by decide))).trans BK6.out); have n0_ := Aside0.mk (hb _ _ GE5.out HB.out); have nn_ := Aside0.mk hn; clear BK1; have BK1 := n1_; clear n1_; clear BK2; have BK2 := n2_; clear n2_; clear BK4; have BK4 := n4_; clear n4_; clear BK6; have BK6 := n6_; clear n6_; clear HB BK5; have HB := n0_; have BK5 := nn_; clear n0_ nn_ hn ho hb) | ((with_reducible refine gate_storeV (ty := 52) (x := .tmp 6) (y := .tmp 15) rfl ?_); refine store_eventV rfl 52 (.tmp 6) (.tmp 15) rfl g6 (kc T) rfl rfl 52 (kc []) BK6.out (by rw [kc_size HTLE.out]; kernel_rfl) (by rw [kc_size (show ([] : List (Int × Bool)).length ≤ 130 from by decide), kc_size HTLE.out]) (kc_one T) ?_; intro ws6 hn ho hb; have n1_ := Aside0.mk ((ho _ (blk_ne BK1.out BK6.out (by decide))).trans BK1.out); have n2_ := Aside0.mk ((ho _ (blk_ne BK2.out BK6.out (by decide))).trans BK2.out); have n4_ := Aside0.mk ((ho _ (blk_ne BK4.out BK6.out (by decide))).trans BK4.out); have n5_ := Aside0.mk ((ho _ (blk_ne BK5.out BK6.out (by decide))).trans BK5.out); have n0_ := Aside0.mk (hb _ _ GE6.out HB.out); have nn_ := Aside0.mk hn; clear BK1; have BK1 := n1_; clear n1_; clear BK2; have BK2 := n2_; clear n2_; clear BK4; have BK4 := n4_; clear n4_; clear BK5; have BK5 := n5_; clear n5_; clear HB BK6; have HB := n0_; have BK6 := nn_; clear n0_ nn_ hn ho hb) | fail)
    have NEX : Aside0 (g1 ≠ g4) := ⟨Ne.symm NE4_1.out⟩
    have NEY : Aside0 (g2 ≠ g4) := ⟨Ne.symm NE4_2.out⟩
    go_loopg [7, 8] hs.length (fun kq v7 v8 w' => ∃ (done rest : List S57) (Au : Option Addr) (cu : Nat), v7 = .bool (revOk T done) ∧ v8 = .int .i64 (done.length : Int) ∧ Aside0 (rest.length = kq) ∧ Aside0 (hs = done ++ rest) ∧ Aside0 (Kd.N k57 57 w' w.heap.size (fun k => (P k ∨ w.heap.size ≤ k) ∧ k ≠ g4 ∧ k ≠ g2) (.slice Au (revs T done).length cu) (revs T done)) ∧ Aside0 (w'.heap[g1]? = some (.cells #[.slice A0 hs.length c0] 45 (0, 0))) ∧ Aside0 (w'.heap[g2]? = some (.cells #[.slice none 0 0] 45 (0, 0))) ∧ Aside0 (w'.heap[g4]? = some (.cells #[.slice Au (revs T done).length cu] 45 (0, 0))) ∧ Aside0 (w'.heap[g5]? = some (.cells (pc T) 51 (0, 0))) ∧ Aside0 (Below w.heap.size w w'))
    case atStart => exact ⟨[], hs, none, 0, rfl, rfl, ⟨rfl⟩, ⟨rfl⟩, ⟨Kd.N_nil _ _ _ _ _⟩, BK1, BK2, BK4, BK5, HB⟩
    case round =>
      clear BK1 BK2 BK4 BK5 BK6 HB
      obtain ⟨done, rest, Au, cu, rfl, rfl, HK, HL, HO, BK1, BK2, BK4, BK5, HB⟩ := hrel
      have x1 := (blk_cell BK1.out 0).trans rfl
      cases rest with
      | nil =>
        have hx : decide ((done.length : Int) < (hs.length : Int)) = false := decide_eq_false (by rw [HL.out]; simp)
        have hxn : ¬ done.length < hs.length := by rw [HL.out]; simp
        have e_ : done = hs := by have h_ := HL.out; simpa using h_.symm
        rw [e_] at HO BK4
        have x4 := (blk_cell BK4.out 0).trans rfl
        have x2 := (blk_cell BK2.out 0).trans rfl
        have z2 := blk_frozen BK2.out 0
        go_wp2_with fail
        refine bodyPost_ret (results_ct rfl _ _ g2 45 #[.slice Au (revs T hs).length cu] (0, 0) _ rfl (blk_put BK2.out 0 _ rfl) Try.underlying45 rfl (by kernel_rfl)) rfl ?_
        exact ⟨_, by rw [show revOk T hs = revOk T done by rw [e_]]; rfl, Kd.N_mono (Kd.N_far (p := ⟨g2, 0, none⟩) HO.out (fun _ hk => hk.2.2) _) (fun _ hk => hk.1), below_put HB.out GE2.out 0 _⟩
      | cons h ts =>
        have hll : done.length + (ts.length + 1) = hs.length := by rw [HL.out, List.length_append, List.length_cons]
        have hx : decide ((done.length : Int) < (hs.length : Int)) = true := decide_eq_true (by omega)
        have hxn : done.length < hs.length := by omega
        have hxp : (done.length : Int) < (hs.length : Int) := by omega
        have hx0 : (0 : Int) ≤ (done.length : Int) := by omega
        have LEN : Aside0 (((revs T done).length + 1) * 56 ≤ 140737488355328) := ⟨by rw [revs, List.length_map]; have := OK2.out; omega⟩
        obtain ⟨kz, hkz⟩ : ∃ kz, gk = kz + 1 := ⟨ts.length, by have := HK.out; rw [List.length_cons] at this; omega⟩
        have HK1 : Aside0 (ts.length = kz) := ⟨by have := HK.out; rw [List.length_cons] at this; omega⟩
        have hw1 : Aside0 (wrap64 ((done.length : Int) + 1) = ((done ++ [h]).length : Int)) := ⟨by
          rw [List.length_append, List.length_singleton]
          have := OK2.out
          unfold wrap64
          omega⟩
        have HKZ := Aside0.mk hkz
        clear hkz hll
        obtain ⟨ad, A1, c1, A2, c2, hA, y0, y1, y2, hl1, hC1, hl2, hC2⟩ := at_T57F HR0.out (done.length : Int) hx0 hxp
        have he : rd_T57 hs (done.length : Int) = h := by rw [HL.out]; exact at_mid52 _ _ _
        rw [he] at y0 y1 y2 hl1 hl2 hC1 hC2
        rw [Int.toNat_natCast] at y0 y1 y2
        subst hA
        have F1 := Aside0.mk (Kd.F_bound hC1)
        have F2 := Aside0.mk (Kd.F_bound hC2)
        have HL1 := Aside0.mk hl1
        have HL2 := Aside0.mk hl2
        have xx0 := (Below.cell HB.out (World.block_lt_of_cell? w _ y0)).trans y0
        have xx1 := (Below.cell HB.out (World.block_lt_of_cell? w _ y1)).trans y1
        have xx2 := (Below.cell HB.out (World.block_lt_of_cell? w _ y2)).trans y2
        clear y0 y1 y2 he hC1 hC2 hl1 hl2
        have hrange : 0 ≤ h.f0 ∧ h.f0 < 130 := by
          have h_ := List.all_eq_true.1 OK3.out h (by rw [HL.out]; simp)
          simpa using h_
        obtain ⟨hr0_, hr1_⟩ := hrange
        have hi130 : h.f0.toNat < 130 := by omega
        obtain ⟨x, hx_⟩ : ∃ x, (T.getD h.f0.toNat (0, false)).1 = x := ⟨_, rfl⟩
        obtain ⟨b, hb_⟩ : ∃ b, revOk T done = b := ⟨_, rfl⟩
        rw [hb_]
        by_cases qn : 0 < h.f1.length
        · have ea : revAt T h = x := by unfold revAt; rw [if_pos qn, hx_]
          have qi : decide ((h.f1.length : Int) > 0) = true := decide_eq_true (by omega)
          have qj : decide ((0 : Int) < (h.f1.length : Int)) = true := decide_eq_true (by omega)
          have qk : (0 : Int) < (h.f1.length : Int) := by omega
          cases b with
          | true =>
            go_wp2_with (first | ((with_reducible refine gate_dst (N := 9) rfl ?_); refine box_event ?hg (N := 9) ?hd (cs := #[.int .i64 0, .slice none 0 0, .slice none 0 0]) (t := 57) ?hr ?_; (case hd => rfl); (case hg => rfl); (case hr => first | kernel_rfl | (go_simp; done) | (go_simp; rfl)); intro g9 hg wn9 hbox hb; have GE9 : Aside0 (w.heap.size ≤ g9) := Aside0.mk (by rw [hg]; exact HB.out.size); have NE9_1 : Aside0 (g9 ≠ g1) := Aside0.mk (by rw [hg]; exact Nat.ne_of_gt (blk_lt BK1.out)); have NE9_2 : Aside0 (g9 ≠ g2) := Aside0.mk (by rw [hg]; exact Nat.ne_of_gt (blk_lt BK2.out)); have NE9_4 : Aside0 (g9 ≠ g4) := Aside0.mk (by rw [hg]; exact Nat.ne_of_gt (blk_lt BK4.out)); have NE9_5 : Aside0 (g9 ≠ g5) := Aside0.mk (by rw [hg]; exact Nat.ne_of_gt (blk_lt BK5.out)); have no_ := Aside0.mk (Kd.N_below (Kd.N_elderB HO.out g9 (by rw [hg]; exact Nat.le_refl _)) hb); clear HO; have HO := no_; clear no_; have n1_ := Aside0.mk (blk_below BK1.out hb); have n2_ := Aside0.mk (blk_below BK2.out hb); have n4_ := Aside0.mk (blk_below BK4.out hb); have n5_ := Aside0.mk (blk_below BK5.out hb); have n0_ := Aside0.mk (below_step HB.out hb); have BK9 := Aside0.mk hbox; clear BK1; have BK1 := n1_; clear n1_; clear BK2; have BK2 := n2_; clear n2_; clear BK4; have BK4 := n4_; clear n4_; clear BK5; have BK5 := n5_; clear n5_; clear HB; have HB := n0_; clear n0_ hbox hb hg) | ((with_reducible refine gate_storeV (ty := 57) (x := .tmp 9) (y := .tmp 27) rfl ?_); refine store_eventV rfl 57 (.tmp 9) (.tmp 27) rfl g9 #[.int .i64 h.f0, .slice A1 h.f1.length c1, .slice A2 h.f2.length c2] rfl rfl 57 #[.int .i64 0, .slice none 0 0, .slice none 0 0] BK9.out (by kernel_rfl) (rfl) (by simp [Value.oneCell']) ?_; intro ws9 hn ho hb; have no_ := Aside0.mk (Kd.N_mono (Kd.N_step HO.out (fun k hk _ => ho k hk.2)) (fun k hk => hk.1)); clear HO; have HO := no_; clear no_; clear x1; have n1_ := Aside0.mk ((ho _ (blk_ne BK1.out BK9.out (by decide))).trans BK1.out); have n2_ := Aside0.mk ((ho _ (blk_ne BK2.out BK9.out (by decide))).trans BK2.out); have n4_ := Aside0.mk ((ho _ (blk_ne BK4.out BK9.out (by decide))).trans BK4.out); have n5_ := Aside0.mk ((ho _ (blk_ne BK5.out BK9.out (by decide))).trans BK5.out); have n0_ := Aside0.mk (hb _ _ GE9.out HB.out); have nn_ := Aside0.mk hn; clear BK1; have BK1 := n1_; clear n1_; clear BK2; have BK2 := n2_; clear n2_; clear BK4; have BK4 := n4_; clear n4_; clear BK5; have BK5 := n5_; clear n5_; clear HB BK9; have HB := n0_; have BK9 := nn_; clear n0_ nn_ hn ho hb; have xc0 := (blk_cell BK9.out 0).trans rfl; have xc1 := (blk_cell BK9.out 1).trans rfl; have xc2 := (blk_cell BK9.out 2).trans rfl; have x4 := (blk_cell BK4.out 0).trans rfl; have p5 := (blk_cell BK5.out h.f0.toNat).trans (pc_at HTL.out hi130); rw [hx_] at p5) | ((with_reducible refine gate_builtin (b := .append) (xs := #[.tmp 56, .tmp 63]) rfl ?_); at_builtin; refine Kd.N_append k57 (w0 := w) w.heap.size rfl (.tmp 56) (.tmp 63) 43 57 (.agg #[.int .i64 0, .slice none 0 0, .slice none 0 0]) 56 rfl Try.underlying43 infoT57 rfl (by decide) (by decide) _ _ (⟨x, h.f2, h.f1⟩ : S57) [.int .i64 x, .slice A2 h.f2.length c2, .slice A1 h.f1.length c1] (fun k => (P k ∨ w.heap.size ≤ k) ∧ k ≠ g4 ∧ k ≠ g2) (fun k => P k ∧ k < w.heap.size) rfl rfl (k57_mkF _ _ _ HL2.out (Kd.F_below F2.out HB.out) HL1.out (Kd.F_below F1.out HB.out)) (fun k hk => ⟨⟨.inl hk.1, fun e_ => Nat.lt_irrefl _ (Nat.lt_of_lt_of_le hk.2 (by rw [e_]; exact GE4.out)), fun e_ => Nat.lt_irrefl _ (Nat.lt_of_lt_of_le hk.2 (by rw [e_]; exact GE2.out))⟩, fun e_ => Nat.lt_irrefl _ (Nat.lt_of_lt_of_le hk.2 (Kd.N_base HO.out k e_.symm))⟩) (fun k hk => ⟨.inr (Nat.le_trans HB.out.size hk), fun e_ => Nat.lt_irrefl _ (Nat.lt_of_lt_of_le (blk_lt BK4.out) (by rw [← e_]; exact hk)), fun e_ => Nat.lt_irrefl _ (Nat.lt_of_lt_of_le (blk_lt BK2.out) (by rw [← e_]; exact hk))⟩) HO.out HB.out HB.out.size LEN.out ?_; intro v1 w11 ho hb hg hat; obtain ⟨Av, cv, rfl⟩ := Kd.N_slice ho; have n0_ := Aside0.mk hb; have nn_ := Aside0.mk ho; have n1_ := Aside0.mk (blk_grown BK1.out hg (Kd.N_ne HO.out BK1.out (by decide))); have n2_ := Aside0.mk (blk_grown BK2.out hg (Kd.N_ne HO.out BK2.out (by decide))); have n4_ := Aside0.mk (blk_grown BK4.out hg (Kd.N_ne HO.out BK4.out (by decide))); have n5_ := Aside0.mk (blk_grown BK5.out hg (Kd.N_ne HO.out BK5.out (by decide))); clear HB HO x4 p5 xc0 xc1 xc2; clear BK1; have BK1 := n1_; clear n1_; clear BK2; have BK2 := n2_; clear n2_; clear BK4; have BK4 := n4_; clear n4_; clear BK5; have BK5 := n5_; clear n5_; have HB := n0_; have HO := nn_; clear n0_ nn_ ho hb hg hat; have x4 := (blk_cell BK4.out 0).trans rfl; have z4 := blk_frozen BK4.out 0) | fail)
            have hkz := HKZ.out
            go_roundg kz
            case measure => omega
            case rel => exact ⟨done ++ [h], ts, Av, cv, by first | (rw [revOk_snoc, hb_, ea]; rfl) | (rw [revOk_snoc, hb_]; rfl), by first | exact congrArg _ hw1.out | (rw [List.length_append, List.length_singleton]; rfl), HK1, ⟨by rw [HL.out, List.append_assoc]; rfl⟩, ⟨by rw [revs_snoc, ea]; exact Kd.N_far (p := ⟨g4, 0, none⟩) HO.out (fun _ hk => hk.2.1) _⟩, ⟨blk_far BK1.out (NEX.out) _⟩, ⟨blk_far BK2.out (NEY.out) _⟩, ⟨by rw [revs_snoc, ea]; exact blk_put BK4.out 0 _ (by simp)⟩, ⟨blk_far BK5.out (blk_ne BK5.out BK4.out (by decide)) _⟩, ⟨below_put HB.out GE4.out 0 _⟩⟩
          | false =>
            go_wp2_with (first | ((with_reducible refine gate_dst (N := 9) rfl ?_); refine box_event ?hg (N := 9) ?hd (cs := #[.int .i64 0, .slice none 0 0, .slice none 0 0]) (t := 57) ?hr ?_; (case hd => rfl); (case hg => rfl); (case hr => first | kernel_rfl | (go_simp; done) | (go_simp; rfl)); intro g9 hg wn9 hbox hb; have GE9 : Aside0 (w.heap.size ≤ g9) := Aside0.mk (by rw [hg]; exact HB.out.size); have NE9_1 : Aside0 (g9 ≠ g1) := Aside0.mk (by rw [hg]; exact Nat.ne_of_gt (blk_lt BK1.out)); have NE9_2 : Aside0 (g9 ≠ g2) := Aside0.mk (by rw [hg]; exact Nat.ne_of_gt (blk_lt BK2.out)); have NE9_4 : Aside0 (g9 ≠ g4) := Aside0.mk (by rw [hg]; exact Nat.ne_of_gt (blk_lt BK4.out)); have NE9_5 : Aside0 (g9 ≠ g5) := Aside0.mk (by rw [hg]; exact Nat.ne_of_gt (blk_lt BK5.out)); have no_ := Aside0.mk (Kd.N_below (Kd.N_elderB HO.out g9 (by rw [hg]; exact Nat.le_refl _)) hb); clear HO; have HO := no_; clear no_; have n1_ := Aside0.mk (blk_below BK1.out hb); have n2_ := Aside0.mk (blk_below BK2.out hb); have n4_ := Aside0.mk (blk_below BK4.out hb); have n5_ := Aside0.mk (blk_below BK5.out hb); have n0_ := Aside0.mk (below_step HB.out hb); have BK9 := Aside0.mk hbox; clear BK1; have BK1 := n1_; clear n1_; clear BK2; have BK2 := n2_; clear n2_; clear BK4; have BK4 := n4_; clear n4_; clear BK5; have BK5 := n5_; clear n5_; clear HB; have HB := n0_; clear n0_ hbox hb hg) | ((with_reducible refine gate_storeV (ty := 57) (x := .tmp 9) (y := .tmp 27) rfl ?_); refine store_eventV rfl 57 (.tmp 9) (.tmp 27) rfl g9 #[.int .i64 h.f0, .slice A1 h.f1.length c1, .slice A2 h.f2.length c2] rfl rfl 57 #[.int .i64 0, .slice none 0 0, .slice none 0 0] BK9.out (by kernel_rfl) (rfl) (by simp [Value.oneCell']) ?_; intro ws9 hn ho hb; have no_ := Aside0.mk (Kd.N_mono (Kd.N_step HO.out (fun k hk _ => ho k hk.2)) (fun k hk => hk.1)); clear HO; have HO := no_; clear no_; clear x1; have n1_ := Aside0.mk ((ho _ (blk_ne BK1.out BK9.out (by decide))).trans BK1.out); have n2_ := Aside0.mk ((ho _ (blk_ne BK2.out BK9.out (by decide))).trans BK2.out); have n4_ := Aside0.mk ((ho _ (blk_ne BK4.out BK9.out (by decide))).trans BK4.out); have n5_ := Aside0.mk ((ho _ (blk_ne BK5.out BK9.out (by decide))).trans BK5.out); have n0_ := Aside0.mk (hb _ _ GE9.out HB.out); have nn_ := Aside0.mk hn; clear BK1; have BK1 := n1_; clear n1_; clear BK2; have BK2 := n2_; clear n2_; clear BK4; have BK4 := n4_; clear n4_; clear BK5; have BK5 := n5_; clear n5_; clear HB BK9; have HB := n0_; have BK9 := nn_; clear n0_ nn_ hn ho hb; have xc0 := (blk_cell BK9.out 0).trans rfl; have xc1 := (blk_cell BK9.out 1).trans rfl; have xc2 := (blk_cell BK9.out 2).trans rfl; have x4 := (blk_cell BK4.out 0).trans rfl; have p5 := (blk_cell BK5.out h.f0.toNat).trans (pc_at HTL.out hi130); rw [hx_] at p5) | ((with_reducible refine gate_builtin (b := .append) (xs := #[.tmp 56, .tmp 63]) rfl ?_); at_builtin; refine Kd.N_append k57 (w0 := w) w.heap.size rfl (.tmp 56) (.tmp 63) 43 57 (.agg #[.int .i64 0, .slice none 0 0, .slice none 0 0]) 56 rfl Try.underlying43 infoT57 rfl (by decide) (by decide) _ _ (⟨x, h.f2, h.f1⟩ : S57) [.int .i64 x, .slice A2 h.f2.length c2, .slice A1 h.f1.length c1] (fun k => (P k ∨ w.heap.size ≤ k) ∧ k ≠ g4 ∧ k ≠ g2) (fun k => P k ∧ k < w.heap.size) rfl rfl (k57_mkF _ _ _ HL2.out (Kd.F_below F2.out HB.out) HL1.out (Kd.F_below F1.out HB.out)) (fun k hk => ⟨⟨.inl hk.1, fun e_ => Nat.lt_irrefl _ (Nat.lt_of_lt_of_le hk.2 (by rw [e_]; exact GE4.out)), fun e_ => Nat.lt_irrefl _ (Nat.lt_of_lt_of_le hk.2 (by rw [e_]; exact GE2.out))⟩, fun e_ => Nat.lt_irrefl _ (Nat.lt_of_lt_of_le hk.2 (Kd.N_base HO.out k e_.symm))⟩) (fun k hk => ⟨.inr (Nat.le_trans HB.out.size hk), fun e_ => Nat.lt_irrefl _ (Nat.lt_of_lt_of_le (blk_lt BK4.out) (by rw [← e_]; exact hk)), fun e_ => Nat.lt_irrefl _ (Nat.lt_of_lt_of_le (blk_lt BK2.out) (by rw [← e_]; exact hk))⟩) HO.out HB.out HB.out.size LEN.out ?_; intro v1 w11 ho hb hg hat; obtain ⟨Av, cv, rfl⟩ := Kd.N_slice ho; have n0_ := Aside0.mk hb; have nn_ := Aside0.mk ho; have n1_ := Aside0.mk (blk_grown BK1.out hg (Kd.N_ne HO.out BK1.out (by decide))); have n2_ := Aside0.mk (blk_grown BK2.out hg (Kd.N_ne HO.out BK2.out (by decide))); have n4_ := Aside0.mk (blk_grown BK4.out hg (Kd.N_ne HO.out BK4.out (by decide))); have n5_ := Aside0.mk (blk_grown BK5.out hg (Kd.N_ne HO.out BK5.out (by decide))); clear HB HO x4 p5 xc0 xc1 xc2; clear BK1; have BK1 := n1_; clear n1_; clear BK2; have BK2 := n2_; clear n2_; clear BK4; have BK4 := n4_; clear n4_; clear BK5; have BK5 := n5_; clear n5_; have HB := n0_; have HO := nn_; clear n0_ nn_ ho hb hg hat; have x4 := (blk_cell BK4.out 0).trans rfl; have z4 := blk_frozen BK4.out 0) | fail)
            have hkz := HKZ.out
            go_roundg kz
            case measure => omega
            case rel => exact ⟨done ++ [h], ts, Av, cv, by first | (rw [revOk_snoc, hb_, ea]; rfl) | (rw [revOk_snoc, hb_]; rfl), by first | exact congrArg _ hw1.out | (rw [List.length_append, List.length_singleton]; rfl), HK1, ⟨by rw [HL.out, List.append_assoc]; rfl⟩, ⟨by rw [revs_snoc, ea]; exact Kd.N_far (p := ⟨g4, 0, none⟩) HO.out (fun _ hk => hk.2.1) _⟩, ⟨blk_far BK1.out (NEX.out) _⟩, ⟨blk_far BK2.out (NEY.out) _⟩, ⟨by rw [revs_snoc, ea]; exact blk_put BK4.out 0 _ (by simp)⟩, ⟨blk_far BK5.out (blk_ne BK5.out BK4.out (by decide)) _⟩, ⟨below_put HB.out GE4.out 0 _⟩⟩
        · have ea : revAt T h = wrap64 (x - (h.f2.length : Int)) := by unfold revAt; rw [if_neg qn, hx_]
          have qi : decide ((h.f1.length : Int) > 0) = false := decide_eq_false (by omega)
          have qj : decide ((0 : Int) < (h.f1.length : Int)) = false := decide_eq_false (by omega)
          have qk : ¬ (0 : Int) < (h.f1.length : Int) := by omega
          cases b with
          | true =>
            go_upto_region 11 with (first | ((with_reducible refine gate_dst (N := 9) rfl ?_); refine box_event ?hg (N := 9) ?hd (cs := #[.int .i64 0, .slice none 0 0, .slice none 0 0]) (t := 57) ?hr ?_; (case hd => rfl); (case hg => rfl); (case hr => first | kernel_rfl | (go_simp; done) | (go_simp; rfl)); intro g9 hg wn9 hbox hb; have GE9 : Aside0 (w.heap.size ≤ g9) := Aside0.mk (by rw [hg]; exact HB.out.size); have NE9_1 : Aside0 (g9 ≠ g1) := Aside0.mk (by rw [hg]; exact Nat.ne_of_gt (blk_lt BK1.out)); have NE9_2 : Aside0 (g9 ≠ g2) := Aside0.mk (by rw [hg]; exact Nat.ne_of_gt (blk_lt BK2.out)); have NE9_4 : Aside0 (g9 ≠ g4) := Aside0.mk (by rw [hg]; exact Nat.ne_of_gt (blk_lt BK4.out)); have NE9_5 : Aside0 (g9 ≠ g5) := Aside0.mk (by rw [hg]; exact Nat.ne_of_gt (blk_lt BK5.out)); have no_ := Aside0.mk (Kd.N_below (Kd.N_elderB HO.out g9 (by rw [hg]; exact Nat.le_refl _)) hb); clear HO; have HO := no_; clear no_; have n1_ := Aside0.mk (blk_below BK1.out hb); have n2_ := Aside0.mk (blk_below BK2.out hb); have n4_ := Aside0.mk (blk_below BK4.out hb); have n5_ := Aside0.mk (blk_below BK5.out hb); have n0_ := Aside0.mk (below_step HB.out hb); have BK9 := Aside0.mk hbox; clear BK1; have BK1 := n1_; clear n1_; clear BK2; have BK2 := n2_; clear n2_; clear BK4; have BK4 := n4_; clear n4_; clear BK5; have BK5 := n5_; clear n5_; clear HB; have HB := n0_; clear n0_ hbox hb hg) | ((with_reducible refine gate_storeV (ty := 57) (x := .tmp 9) (y := .tmp 27) rfl ?_); refine store_eventV rfl 57 (.tmp 9) (.tmp 27) rfl g9 #[.int .i64 h.f0, .slice A1 h.f1.length c1, .slice A2 h.f2.length c2] rfl rfl 57 #[.int .i64 0, .slice none 0 0, .slice none 0 0] BK9.out (by kernel_rfl) (rfl) (by simp [Value.oneCell']) ?_; intro ws9 hn ho hb; have no_ := Aside0.mk (Kd.N_mono (Kd.N_step HO.out (fun k hk _ => ho k hk.2)) (fun k hk => hk.1)); clear HO; have HO := no_; clear no_; clear x1; have n1_ := Aside0.mk ((ho _ (blk_ne BK1.out BK9.out (by decide))).trans BK1.out); have n2_ := Aside0.mk ((ho _ (blk_ne BK2.out BK9.out (by decide))).trans BK2.out); have n4_ := Aside0.mk ((ho _ (blk_ne BK4.out BK9.out (by decide))).trans BK4.out); have n5_ := Aside0.mk ((ho _ (blk_ne BK5.out BK9.out (by decide))).trans BK5.out); have n0_ := Aside0.mk (hb _ _ GE9.out HB.out); have nn_ := Aside0.mk hn; clear BK1; have BK1 := n1_; clear n1_; clear BK2; have BK2 := n2_; clear n2_; clear BK4; have BK4 := n4_; clear n4_; clear BK5; have BK5 := n5_; clear n5_; clear HB BK9; have HB := n0_; have BK9 := nn_; clear n0_ nn_ hn ho hb; have xc0 := (blk_cell BK9.out 0).trans rfl; have xc1 := (blk_cell BK9.out 1).trans rfl; have xc2 := (blk_cell BK9.out 2).trans rfl; have x4 := (blk_cell BK4.out 0).trans rfl; have p5 := (blk_cell BK5.out h.f0.toNat).trans (pc_at HTL.out hi130); rw [hx_] at p5) | fail)
            go_quiet (fail)
            have mo_ := Aside0.mk (Kd.N_drewN HO.out nq)
            have mb_ := Aside0.mk (pw_below_drewN HB.out nq)
            have m1_ := Aside0.mk (blk_drewN BK1.out nq)
            have m2_ := Aside0.mk (blk_drewN BK2.out nq)
            have m4_ := Aside0.mk (blk_drewN BK4.out nq)
            have m5_ := Aside0.mk (blk_drewN BK5.out nq)
            have m9_ := Aside0.mk (blk_drewN BK9.out nq)
            clear HO HB BK1 BK2 BK4 BK5 BK9 x4 p5 xc0 xc1 xc2
            generalize ws9.drewN nq = wz at mo_ mb_ m1_ m2_ m4_ m5_ m9_ ⊢
            have HO := mo_
            have HB := mb_
            have BK1 := m1_
            have BK2 := m2_
            have BK4 := m4_
            have BK5 := m5_
            have BK9 := m9_
            have xc0 := (blk_cell BK9.out 0).trans rfl
            have xc1 := (blk_cell BK9.out 1).trans rfl
            have xc2 := (blk_cell BK9.out 2).trans rfl
            have x4 := (blk_cell BK4.out 0).trans rfl
            have p5 := (blk_cell BK5.out h.f0.toNat).trans (pc_at HTL.out hi130)
            rw [hx_] at p5
            clear mo_ mb_ m1_ m2_ m4_ m5_ m9_
            go_wp2_with (first | ((with_reducible refine gate_builtin (b := .append) (xs := #[.tmp 56, .tmp 63]) rfl ?_); at_builtin; refine Kd.N_append k57 (w0 := w) w.heap.size rfl (.tmp 56) (.tmp 63) 43 57 (.agg #[.int .i64 0, .slice none 0 0, .slice none 0 0]) 56 rfl Try.underlying43 infoT57 rfl (by decide) (by decide) _ _ (⟨(wrap64 (x - (h.f2.length : Int))), h.f2, h.f1⟩ : S57) [.int .i64 (wrap64 (x - (h.f2.length : Int))), .slice A2 h.f2.length c2, .slice A1 h.f1.length c1] (fun k => (P k ∨ w.heap.size ≤ k) ∧ k ≠ g4 ∧ k ≠ g2) (fun k => P k ∧ k < w.heap.size) rfl rfl (k57_mkF _ _ _ HL2.out (Kd.F_below F2.out HB.out) HL1.out (Kd.F_below F1.out HB.out)) (fun k hk => ⟨⟨.inl hk.1, fun e_ => Nat.lt_irrefl _ (Nat.lt_of_lt_of_le hk.2 (by rw [e_]; exact GE4.out)), fun e_ => Nat.lt_irrefl _ (Nat.lt_of_lt_of_le hk.2 (by rw [e_]; exact GE2.out))⟩, fun e_ => Nat.lt_irrefl _ (Nat.lt_of_lt_of_le hk.2 (Kd.N_base HO.out k e_.symm))⟩) (fun k hk => ⟨.inr (Nat.le_trans HB.out.size hk), fun e_ => Nat.lt_irrefl _ (Nat.lt_of_lt_of_le (blk_lt BK4.out) (by rw [← e_]; exact hk)), fun e_ => Nat.lt_irrefl _ (Nat.lt_of_lt_of_le (blk_lt BK2.out) (by rw [← e_]; exact hk))⟩) HO.out HB.out HB.out.size LEN.out ?_; intro v1 w11 ho hb hg hat; obtain ⟨Av, cv, rfl⟩ := Kd.N_slice ho; have n0_ := Aside0.mk hb; have nn_ := Aside0.mk ho; have n1_ := Aside0.mk (blk_grown BK1.out hg (Kd.N_ne HO.out BK1.out (by decide))); have n2_ := Aside0.mk (blk_grown BK2.out hg (Kd.N_ne HO.out BK2.out (by decide))); have n4_ := Aside0.mk (blk_grown BK4.out hg (Kd.N_ne HO.out BK4.out (by decide))); have n5_ := Aside0.mk (blk_grown BK5.out hg (Kd.N_ne HO.out BK5.out (by decide))); clear HB HO x4 p5 xc0 xc1 xc2; clear BK1; have BK1 := n1_; clear n1_; clear BK2; have BK2 := n2_; clear n2_; clear BK4; have BK4 := n4_; clear n4_; clear BK5; have BK5 := n5_; clear n5_; have HB := n0_; have HO := nn_; clear n0_ nn_ ho hb hg hat; have x4 := (blk_cell BK4.out 0).trans rfl; have z4 := blk_frozen BK4.out 0) | fail)
            have hkz := HKZ.out
            go_roundg kz
            case measure => omega
            case rel => exact ⟨done ++ [h], ts, Av, cv, by first | (rw [revOk_snoc, hb_, ea]; rfl) | (rw [revOk_snoc, hb_]; rfl), by first | exact congrArg _ hw1.out | (rw [List.length_append, List.length_singleton]; rfl), HK1, ⟨by rw [HL.out, List.append_assoc]; rfl⟩, ⟨by rw [revs_snoc, ea]; exact Kd.N_far (p := ⟨g4, 0, none⟩) HO.out (fun _ hk => hk.2.1) _⟩, ⟨blk_far BK1.out (NEX.out) _⟩, ⟨blk_far BK2.out (NEY.out) _⟩, ⟨by rw [revs_snoc, ea]; exact blk_put BK4.out 0 _ (by simp)⟩, ⟨blk_far BK5.out (blk_ne BK5.out BK4.out (by decide)) _⟩, ⟨below_put HB.out GE4.out 0 _⟩⟩
          | false =>
            go_upto_region 11 with (first | ((with_reducible refine gate_dst (N := 9) rfl ?_); refine box_event ?hg (N := 9) ?hd (cs := #[.int .i64 0, .slice none 0 0, .slice none 0 0]) (t := 57) ?hr ?_; (case hd => rfl); (case hg => rfl); (case hr => first | kernel_rfl | (go_simp; done) | (go_simp; rfl)); intro g9 hg wn9 hbox hb; have GE9 : Aside0 (w.heap.size ≤ g9) := Aside0.mk (by rw [hg]; exact HB.out.size); have NE9_1 : Aside0 (g9 ≠ g1) := Aside0.mk (by rw [hg]; exact Nat.ne_of_gt (blk_lt BK1.out)); have NE9_2 : Aside0 (g9 ≠ g2) := Aside0.mk (by rw [hg]; exact Nat.ne_of_gt (blk_lt BK2.out)); have NE9_4 : Aside0 (g9 ≠ g4) := Aside0.mk (by rw [hg]; exact Nat.ne_of_gt (blk_lt BK4.out)); have NE9_5 : Aside0 (g9 ≠ g5) := Aside0.mk (by rw [hg]; exact Nat.ne_of_gt (blk_lt BK5.out)); have no_ := Aside0.mk (Kd.N_below (Kd.N_elderB HO.out g9 (by rw [hg]; exact Nat.le_refl _)) hb); clear HO; have HO := no_; clear no_; have n1_ := Aside0.mk (blk_below BK1.out hb); have n2_ := Aside0.mk (blk_below BK2.out hb); have n4_ := Aside0.mk (blk_below BK4.out hb); have n5_ := Aside0.mk (blk_below BK5.out hb); have n0_ := Aside0.mk (below_step HB.out hb); have BK9 := Aside0.mk hbox; clear BK1; have BK1 := n1_; clear n1_; clear BK2; have BK2 := n2_; clear n2_; clear BK4; have BK4 := n4_; clear n4_; clear BK5; have BK5 := n5_; clear n5_; clear HB; have HB := n0_; clear n0_ hbox hb hg) | ((with_reducible refine gate_storeV (ty := 57) (x := .tmp 9) (y := .tmp 27) rfl ?_); refine store_eventV rfl 57 (.tmp 9) (.tmp 27) rfl g9 #[.int .i64 h.f0, .slice A1 h.f1.length c1, .slice A2 h.f2.length c2] rfl rfl 57 #[.int .i64 0, .slice none 0 0, .slice none 0 0] BK9.out (by kernel_rfl) (rfl) (by simp [Value.oneCell']) ?_; intro ws9 hn ho hb; have no_ := Aside0.mk (Kd.N_mono (Kd.N_step HO.out (fun k hk _ => ho k hk.2)) (fun k hk => hk.1)); clear HO; have HO := no_; clear no_; clear x1; have n1_ := Aside0.mk ((ho _ (blk_ne BK1.out BK9.out (by decide))).trans BK1.out); have n2_ := Aside0.mk ((ho _ (blk_ne BK2.out BK9.out (by decide))).trans BK2.out); have n4_ := Aside0.mk ((ho _ (blk_ne BK4.out BK9.out (by decide))).trans BK4.out); have n5_ := Aside0.mk ((ho _ (blk_ne BK5.out BK9.out (by decide))).trans BK5.out); have n0_ := Aside0.mk (hb _ _ GE9.out HB.out); have nn_ := Aside0.mk hn; clear BK1; have BK1 := n1_; clear n1_; clear BK2; have BK2 := n2_; clear n2_; clear BK4; have BK4 := n4_; clear n4_; clear BK5; have BK5 := n5_; clear n5_; clear HB BK9; have HB := n0_; have BK9 := nn_; clear n0_ nn_ hn ho hb; have xc0 := (blk_cell BK9.out 0).trans rfl; have xc1 := (blk_cell BK9.out 1).trans rfl; have xc2 := (blk_cell BK9.out 2).trans rfl; have x4 := (blk_cell BK4.out 0).trans rfl; have p5 := (blk_cell BK5.out h.f0.toNat).trans (pc_at HTL.out hi130); rw [hx_] at p5) | fail)
            go_quiet (fail)
            have mo_ := Aside0.mk (Kd.N_drewN HO.out nq)
            have mb_ := Aside0.mk (pw_below_drewN HB.out nq)
            have m1_ := Aside0.mk (blk_drewN BK1.out nq)
            have m2_ := Aside0.mk (blk_drewN BK2.out nq)
            have m4_ := Aside0.mk (blk_drewN BK4.out nq)
            have m5_ := Aside0.mk (blk_drewN BK5.out nq)
            have m9_ := Aside0.mk (blk_drewN BK9.out nq)
            clear HO HB BK1 BK2 BK4 BK5 BK9 x4 p5 xc0 xc1 xc2
            generalize ws9.drewN nq = wz at mo_ mb_ m1_ m2_ m4_ m5_ m9_ ⊢
            have HO := mo_
            have HB := mb_
            have BK1 := m1_
            have BK2 := m2_
            have BK4 := m4_
            have BK5 := m5_
            have BK9 := m9_
            have xc0 := (blk_cell BK9.out 0).trans rfl
            have xc1 := (blk_cell BK9.out 1).trans rfl
            have xc2 := (blk_cell BK9.out 2).trans rfl
            have x4 := (blk_cell BK4.out 0).trans rfl
            have p5 := (blk_cell BK5.out h.f0.toNat).trans (pc_at HTL.out hi130)
            rw [hx_] at p5
            clear mo_ mb_ m1_ m2_ m4_ m5_ m9_
            go_wp2_with (first | ((with_reducible refine gate_builtin (b := .append) (xs := #[.tmp 56, .tmp 63]) rfl ?_); at_builtin; refine Kd.N_append k57 (w0 := w) w.heap.size rfl (.tmp 56) (.tmp 63) 43 57 (.agg #[.int .i64 0, .slice none 0 0, .slice none 0 0]) 56 rfl Try.underlying43 infoT57 rfl (by decide) (by decide) _ _ (⟨(wrap64 (x - (h.f2.length : Int))), h.f2, h.f1⟩ : S57) [.int .i64 (wrap64 (x - (h.f2.length : Int))), .slice A2 h.f2.length c2, .slice A1 h.f1.length c1] (fun k => (P k ∨ w.heap.size ≤ k) ∧ k ≠ g4 ∧ k ≠ g2) (fun k => P k ∧ k < w.heap.size) rfl rfl (k57_mkF _ _ _ HL2.out (Kd.F_below F2.out HB.out) HL1.out (Kd.F_below F1.out HB.out)) (fun k hk => ⟨⟨.inl hk.1, fun e_ => Nat.lt_irrefl _ (Nat.lt_of_lt_of_le hk.2 (by rw [e_]; exact GE4.out)), fun e_ => Nat.lt_irrefl _ (Nat.lt_of_lt_of_le hk.2 (by rw [e_]; exact GE2.out))⟩, fun e_ => Nat.lt_irrefl _ (Nat.lt_of_lt_of_le hk.2 (Kd.N_base HO.out k e_.symm))⟩) (fun k hk => ⟨.inr (Nat.le_trans HB.out.size hk), fun e_ => Nat.lt_irrefl _ (Nat.lt_of_lt_of_le (blk_lt BK4.out) (by rw [← e_]; exact hk)), fun e_ => Nat.lt_irrefl _ (Nat.lt_of_lt_of_le (blk_lt BK2.out) (by rw [← e_]; exact hk))⟩) HO.out HB.out HB.out.size LEN.out ?_; intro v1 w11 ho hb hg hat; obtain ⟨Av, cv, rfl⟩ := Kd.N_slice ho; have n0_ := Aside0.mk hb; have nn_ := Aside0.mk ho; have n1_ := Aside0.mk (blk_grown BK1.out hg (Kd.N_ne HO.out BK1.out (by decide))); have n2_ := Aside0.mk (blk_grown BK2.out hg (Kd.N_ne HO.out BK2.out (by decide))); have n4_ := Aside0.mk (blk_grown BK4.out hg (Kd.N_ne HO.out BK4.out (by decide))); have n5_ := Aside0.mk (blk_grown BK5.out hg (Kd.N_ne HO.out BK5.out (by decide))); clear HB HO x4 p5 xc0 xc1 xc2; clear BK1; have BK1 := n1_; clear n1_; clear BK2; have BK2 := n2_; clear n2_; clear BK4; have BK4 := n4_; clear n4_; clear BK5; have BK5 := n5_; clear n5_; have HB := n0_; have HO := nn_; clear n0_ nn_ ho hb hg hat; have x4 := (blk_cell BK4.out 0).trans rfl; have z4 := blk_frozen BK4.out 0) | fail)
            have hkz := HKZ.out
            go_roundg kz
            case measure => omega
            case rel => exact ⟨done ++ [h], ts, Av, cv, by first | (rw [revOk_snoc, hb_, ea]; rfl) | (rw [revOk_snoc, hb_]; rfl), by first | exact congrArg _ hw1.out | (rw [List.length_append, List.length_singleton]; rfl), HK1, ⟨by rw [HL.out, List.append_assoc]; rfl⟩, ⟨by rw [revs_snoc, ea]; exact Kd.N_far (p := ⟨g4, 0, none⟩) HO.out (fun _ hk => hk.2.1) _⟩, ⟨blk_far BK1.out (NEX.out) _⟩, ⟨blk_far BK2.out (NEY.out) _⟩, ⟨by rw [revs_snoc, ea]; exact blk_put BK4.out 0 _ (by simp)⟩, ⟨blk_far BK5.out (blk_ne BK5.out BK4.out (by decide)) _⟩, ⟨below_put HB.out GE4.out 0 _⟩⟩
  · rw [if_neg hq] at h
    cases h
end Go.Proofs.Ytbkdaofddnkaaaa.PAm
