/- The law AnchorListsMatchSpec's body: the ways that answer true. By hand. -/
import Derived.Test.YtbkdaofddnkaaaaAr
import Derived.Test.YtbkdaofddnkaaaaPAmx1
import Derived.Test.YtbkdaofddnkaaaaPAmx18
import Derived.Test.YtbkdaofddnkaaaaPAmx2
import Derived.Test.YtbkdaofddnkaaaaPAmx22
import Derived.Test.YtbkdaofddnkaaaaPAmx30
import Derived.Test.YtbkdaofddnkaaaaPAmx21
namespace Go.Proofs.Ytbkdaofddnkaaaa.PAm
open Go.RowKit Go.Proofs.YtbkdaofddnkaaaaW.PrintWords Go.Proofs.YtbkdaofddnkaaaaW.PrintLast Go.Proofs.YtbkdaofddnkaaaaW.PrintMore
attribute [local go_sem] max2_int min2_int max_two min_two max_three min_three max_four min_four
attribute [local go_sem] World.cell?_alloc_some
attribute [local go_sem high] eqA25
set_option linter.unusedVariables false
set_option linter.unusedSimpArgs false

theorem range_out {line : Int} (h : line < 0 ∨ line ≥ 120) : changeforgelaw7_rangeFault.f line = some (3, -2) := by
  unfold changeforgelaw7_rangeFault.f
  by_cases h0 : line < 0
  · rw [if_pos h0]; rfl
  · rw [if_neg h0, if_pos (by omega)]; rfl
theorem range_in {line : Int} (h0 : 0 ≤ line) (h1 : line < 120) : changeforgelaw7_rangeFault.f line = some (0, 0) := by
  unfold changeforgelaw7_rangeFault.f
  rw [if_neg (by omega), if_neg (by omega)]
theorem heap57 : Kd.Heap k57 := Kd.heap_iso _ (Kd.heap_pair (Kd.heap_int _) (Kd.heap_pair (Kd.heap_slice _ Kd.heap_string) (Kd.heap_slice _ Kd.heap_string)))
/-- The first fault of the patches. -/
def thV (k : Nat) : List S45 → Nat → Option (Int × Int)
  | [], _ => some (0, 0)
  | p :: t, i => (textpatch_Validate.f k p.f0).bind fun c => if c.1 = 0 then thV k t (i + 1) else some (c.1, (i : Int))
/-- Where the line comes to, and through how many patches. -/
def thW : List S45 → Int → Int → Option (Int × Int)
  | [], w, c => some (w, c)
  | p :: t, w, c => if w < 120 then (if 0 ≤ w ∧ trOk 0 p.f0 = true ∧ p.f0.length ≤ 1000 then (if ((trL p.f0 0 0).getD w.toNat (0, false)).2 = true then thW t ((trL p.f0 0 0).getD w.toNat (0, false)).1 (c + 1) else some (w, c)) else none) else some (w, c)
/-- The first hunk that ends behind the text. -/
def kpF : List S57 → Int → Nat → Int × Int
  | [], _, _ => (0, 0)
  | h :: t, n, i => if wrap64 (h.f0 + (h.f1.length : Int)) > n then (19, (i : Int)) else kpF t n (i + 1)
def kpW (hs : List S57) (n : Int) (w0 : Int × Int) : Int × Int := if w0.1 = 0 then (if n < 0 ∨ n > 120 then (3, -2) else kpF hs n 0) else w0
def kpOk (hs : List S57) (n : Int) (l : List Int) : Bool := (List.range n.toNat).all fun i => decide (l.getD i 0 = if ((trL hs 0 0).getD i (0, false)).2 = true then ((trL hs 0 0).getD i (0, false)).1 else -1)
def thOk (m : Int × Int × Int × Int) (v u : Int × Int) : Bool := if v.1 = 0 then decide (m.2.2.1 = 0) && (decide (120 ≤ u.1) || (decide (m.1 = u.1) && decide (m.2.1 = u.2))) else decide (m = (0, 0, v.1, v.2))
def kpAll (hs : List S57) (n : Int) (q : List Int × Int × Int) (w : Int × Int) : Bool := if w.1 = 0 then decide (q.2.1 = 0) && decide ((q.1.length : Int) = n) && trOk 0 hs && decide (hs.length ≤ 1000) && decide (n ≤ 120) && kpOk hs n q.1 else decide (q.2 = w) && decide (q.1 = [])
def thV0 (k : Nat) (ps : List S45) (line : Int) : Option (Int × Int) := if (ps.length : Int) > 12 then some (2, -1) else (if line < 0 ∨ line ≥ 120 then some (3, -2) else thV k ps 0)
def changeforgelaw7_AnchorListsMatchSpec.f (k : Nat) (l0 : List S45) (l1_0 : List S57) (a2 a3 : Int) : Option Bool :=
  (anchor_Through.f k l0 a2).bind fun m => ((anchor_Kept.f k l1_0 a3).bind fun q => ((changeforgelaw7_anchorExample.f k).bind fun t => (if t = true then
    ((thV0 k l0 a2).bind fun v => ((if v.1 = 0 then thW l0 a2 0 else some (a2, 0)).bind fun u => (if thOk m v u = true then
      ((textpatch_Validate.f k l1_0).bind fun w0 => (if kpAll l1_0 a3 q (kpW l1_0 a3 w0) = true then some true else none)) else none))) else none)))
theorem thV.mono : ∀ (ps : List S45) (i k : Nat), LeO (thV k ps i) (thV (k + 1) ps i)
  | [], _, _ => LeO.refl _
  | p :: t, i, k => LeO.bind (textpatch_Validate.mono _ _) (fun _ => LeO.ite (thV.mono t (i + 1) k) (LeO.refl _))
theorem changeforgelaw7_AnchorListsMatchSpec.mono : ∀ a0 a1 a2 a3 k, LeO (changeforgelaw7_AnchorListsMatchSpec.f k a0 a1 a2 a3) (changeforgelaw7_AnchorListsMatchSpec.f (k + 1) a0 a1 a2 a3) := by
  intro a0 a1 a2 a3 k
  unfold changeforgelaw7_AnchorListsMatchSpec.f
  refine LeO.bind (anchor_Through.mono _ _ _) (fun _ => LeO.bind (anchor_Kept.mono _ _ _) (fun _ => LeO.bind (changeforgelaw7_anchorExample.mono _) (fun _ => LeO.ite (LeO.bind ?_ (fun _ => LeO.bind (LeO.refl _) (fun _ => LeO.ite (LeO.bind (textpatch_Validate.mono _ _) (fun _ => LeO.refl _)) (LeO.refl _)))) (LeO.refl _))))
  unfold thV0
  exact LeO.ite (LeO.refl _) (LeO.ite (LeO.refl _) (thV.mono _ _ _))
theorem at_mid45 (done : List S45) (e : S45) (es : List S45) : rd_T45 (done ++ e :: es) (done.length : Int) = e := by simp [rd_T45, List.getD_eq_getElem?_getD]
theorem up_ge : ∀ (c i : Nat) (n : Int), 0 ≤ n → 0 ≤ ((up c n).getD i (0, false)).1
  | 0, i, n, h => by simp [up]
  | c + 1, 0, n, h => by simpa [up] using h
  | c + 1, i + 1, n, h => by
    have := up_ge c i (n + 1) (by omega)
    simpa [up] using this
theorem app_ge {a b : List (Int × Bool)} (ha : ∀ i, 0 ≤ (a.getD i (0, false)).1) (hb : ∀ i, 0 ≤ (b.getD i (0, false)).1) (i : Nat) : 0 ≤ ((a ++ b).getD i (0, false)).1 := by
  by_cases h : i < a.length
  · have := ha i
    simp only [List.getD_eq_getElem?_getD, List.getElem?_append_left h] at this ⊢
    exact this
  · have := hb (i - a.length)
    simp only [List.getD_eq_getElem?_getD, List.getElem?_append_right (Nat.le_of_not_lt h)] at this ⊢
    exact this
theorem rep_ge (c : Nat) (n : Int) (h : 0 ≤ n) (i : Nat) : 0 ≤ ((List.replicate c (n, false)).getD i (0, false)).1 := by
  rw [List.getD_eq_getElem?_getD, List.getElem?_replicate]
  split
  · exact h
  · exact Int.le_refl _
theorem trL_ge : ∀ (hs : List S57) (o : Nat) (n : Int), 0 ≤ n → ∀ i, 0 ≤ ((trL hs o n).getD i (0, false)).1
  | [], o, n, h, i => up_ge _ _ _ h
  | h :: t, o, n, hn, i => by
    simp only [trL]
    exact app_ge (fun i => up_ge _ _ _ hn) (fun i => app_ge (fun i => rep_ge _ _ (by omega) i) (fun i => trL_ge t _ _ (by omega) i) i) i
set_option maxHeartbeats 8000000 in
set_option maxRecDepth 100000 in
theorem changeforgelaw7_AnchorListsMatchSpec.calls (k : Nat) (A0 : Option Addr) (c0 : Nat) (l0 : List (S45)) (A1_0 : Option Addr) (c1_0 : Nat) (l1_0 : List (S57)) (a2 : Int) (a3 : Int) (r : Bool) (w : World) (hr0 : Kd.C k45 w A0 l0.length l0) (hc0 : l0.length ≤ c0) (hr1_0 : Kd.C k57 w A1_0 l1_0.length l1_0) (hc1_0 : l1_0.length ≤ c1_0) (h : changeforgelaw7_AnchorListsMatchSpec.f k l0 l1_0 a2 a3 = some r) :
    Calls Try.prog 8 #[.slice A0 l0.length c0, .agg #[.slice A1_0 l1_0.length c1_0], .int .i64 a2, .int .i64 a3] w fun e w' => e = .returned (.bool r) ∧ Below w.heap.size w w' := by
  have hu45 := Try.underlying45
  have hu25 := Try.underlying25
  have hu51 := Try.underlying51
  have hu52 := Try.underlying52
  have hu57 := Try.underlying57
  have hfl25_0 : ∀ (c0_ c1_ : Value) (W : World), (Instr.field 25 (.agg #[c0_, c1_]) 0).run Try.prog W = .ok c0_ W := fun _ _ _ => by kernel_rfl
  have HR0 := Aside0.mk hr0
  have HC0 := Aside0.mk hc0
  have HR1 := Aside0.mk hr1_0
  have HC1 := Aside0.mk hc1_0
  clear hr0 hc0 hr1_0 hc1_0
  unfold changeforgelaw7_AnchorListsMatchSpec.f at h
  replace h := Option.bind_eq_some_iff.mp h
  obtain ⟨⟨m1, m2, m3, m4⟩, hm, h⟩ := h
  replace h := Option.bind_eq_some_iff.mp h
  obtain ⟨⟨l, k2, k3⟩, hkp, h⟩ := h
  replace h := Option.bind_eq_some_iff.mp h
  obtain ⟨t, hex, h⟩ := h
  have HM := Aside0.mk hm
  have HKP := Aside0.mk hkp
  clear hm hkp
  cases t with
  | false => cases h
  | true =>
    have HEX := Aside0.mk hex
    clear hex
    rw [if_pos rfl] at h
    replace h := Option.bind_eq_some_iff.mp h
    obtain ⟨⟨v1, v2⟩, hv, h⟩ := h
    replace h := Option.bind_eq_some_iff.mp h
    obtain ⟨⟨u1, u2⟩, hu, h⟩ := h
    by_cases hth : thOk (m1, m2, m3, m4) (v1, v2) (u1, u2) = true
    · rw [if_pos hth] at h
      replace h := Option.bind_eq_some_iff.mp h
      obtain ⟨⟨y1, y2⟩, hy, h⟩ := h
      by_cases hkw : kpAll l1_0 a3 (l, k2, k3) (kpW l1_0 a3 (y1, y2)) = true
      · rw [if_pos hkw] at h
        obtain rfl := Option.some.inj h
        have HV := Aside0.mk hv
        have HU := Aside0.mk hu
        have HTH := Aside0.mk hth
        have HY := Aside0.mk hy
        have HKW := Aside0.mk hkw
        clear hv hu hth hy hkw h
        have HB := Aside0.mk (Below.refl w.heap.size w)
        go_enter Try.func8, Try.ntmps8
        go_upto_if 43 with (first | ((with_reducible refine gate_dst (N := 5) rfl ?_); refine box_event ?hg (N := 5) ?hd (cs := #[.slice A1_0 l1_0.length c1_0]) (t := 45) ?hr ?_; (case hd => rfl); (case hg => rfl); (case hr => first | kernel_rfl | (go_simp; done) | (go_simp; rfl)); intro g5 hg wn5 hbox hb; have GE5 : Aside0 (w.heap.size ≤ g5) := Aside0.mk (by rw [hg]; exact HB.out.size); have n0_ := Aside0.mk (below_step HB.out hb); have BK5 := Aside0.mk hbox; clear HB; have HB := n0_; clear n0_ hbox hb hg; (try clear x5_0); have x5_0 := (blk_cell BK5.out 0).trans rfl) | ((with_reducible refine gate_callee (f := 23) rfl ?_); refine goesL_ (some 28) rfl rfl Try.func23 (by kernel_rfl) rfl #[.slice A0 l0.length c0, .int .i64 a2] rfl (by (try simp only [List.map_toArray, List.map_cons, List.map_nil]); first | done | rfl) ?_; refine (anchor_Through.calls k A0 c0 l0 a2 _ _ _ _ _ (Kd.C_below HR0.out HB.out) HC0.out HM.out).mono ?_; rintro e w4 ⟨rfl, hb⟩; refine ⟨_, rfl, ?_⟩; have n0_ := Aside0.mk (below_step HB.out hb); have n5_ := Aside0.mk (blk_below BK5.out hb); clear HB; have HB := n0_; clear n0_ hb; clear BK5; have BK5 := n5_; clear n5_; (try clear x5_0); have x5_0 := (blk_cell BK5.out 0).trans rfl) | ((with_reducible refine gate_dst (N := 11) rfl ?_); refine box_event ?hg (N := 11) ?hd (cs := #[.int .i64 0, .int .i64 0]) (t := 25) ?hr ?_; (case hd => rfl); (case hg => rfl); (case hr => first | kernel_rfl | (go_simp; done) | (go_simp; rfl)); intro g11 hg wn11 hbox hb; have GE11 : Aside0 (w.heap.size ≤ g11) := Aside0.mk (by rw [hg]; exact HB.out.size); have NE11_5 : Aside0 (g11 ≠ g5) := Aside0.mk (by rw [hg]; exact Nat.ne_of_gt (blk_lt BK5.out)); have n5_ := Aside0.mk (blk_below BK5.out hb); have n0_ := Aside0.mk (below_step HB.out hb); have BK11 := Aside0.mk hbox; clear BK5; have BK5 := n5_; clear n5_; clear HB; have HB := n0_; clear n0_ hbox hb hg) | ((with_reducible refine gate_storeV (ty := 25) (x := .tmp 11) (y := .tmp 31) rfl ?_); refine store_eventV rfl 25 (.tmp 11) (.tmp 31) rfl g11 _ rfl rfl 25 _ BK11.out (by kernel_rfl) (rfl) (by simp [Value.oneCell']) ?_; intro ws11_31 hn ho hb; have n5_ := Aside0.mk ((ho _ (Ne.symm NE11_5.out)).trans BK5.out); have n0_ := Aside0.mk (hb _ _ GE11.out HB.out); have nn_ := Aside0.mk hn; clear BK5; have BK5 := n5_; clear n5_; clear HB BK11; have HB := n0_; have BK11 := nn_; clear n0_ nn_ hn ho hb; (try clear x5_0); have x5_0 := (blk_cell BK5.out 0).trans rfl; (try clear x11_0); have x11_0 := (blk_cell BK11.out 0).trans rfl; (try clear x11_1); have x11_1 := (blk_cell BK11.out 1).trans rfl) | ((with_reducible refine gate_callee (f := 24) rfl ?_); refine goesL_ (some 35) rfl rfl Try.func24 (by kernel_rfl) rfl #[.agg #[.slice A1_0 l1_0.length c1_0], .int .i64 a3] rfl (by (try simp only [List.map_toArray, List.map_cons, List.map_nil]); first | done | rfl) ?_; refine (anchor_Kept.calls k A1_0 c1_0 l1_0 a3 _ _ _ _ (Kd.C_below HR1.out HB.out) HC1.out HKP.out).mono ?_; rintro e wk ⟨u0_, rfl, hn_, hb⟩; refine ⟨_, rfl, ?_⟩; have n0_ := Aside0.mk (below_step HB.out hb); have n5_ := Aside0.mk (blk_below BK5.out hb); have n11_ := Aside0.mk (blk_below BK11.out hb); obtain ⟨AL, cL, rfl, hq1, hq2⟩ := Kd.R_reads hn_; have HLC := Aside0.mk hq2; have HLL := Aside0.mk hq1; clear hn_ hq1 hq2; clear HB; have HA := n0_; clear n0_ hb; have HB := Aside0.mk (Below.refl wk.heap.size wk); clear BK5; have BK5 := n5_; clear n5_; clear BK11; have BK11 := n11_; clear n11_; (try clear x5_0); have x5_0 := (blk_cell BK5.out 0).trans rfl; (try clear x11_0); have x11_0 := (blk_cell BK11.out 0).trans rfl; (try clear x11_1); have x11_1 := (blk_cell BK11.out 1).trans rfl) | ((with_reducible refine gate_dst (N := 13) rfl ?_); refine box_event ?hg (N := 13) ?hd (cs := #[.int .i64 0, .int .i64 0]) (t := 25) ?hr ?_; (case hd => rfl); (case hg => rfl); (case hr => first | kernel_rfl | (go_simp; done) | (go_simp; rfl)); intro g13 hg wn13 hbox hb; have GE13 : Aside0 (wk.heap.size ≤ g13) := Aside0.mk (by rw [hg]; exact HB.out.size); have NE13_5 : Aside0 (g13 ≠ g5) := Aside0.mk (by rw [hg]; exact Nat.ne_of_gt (blk_lt BK5.out)); have NE13_11 : Aside0 (g13 ≠ g11) := Aside0.mk (by rw [hg]; exact Nat.ne_of_gt (blk_lt BK11.out)); have n5_ := Aside0.mk (blk_below BK5.out hb); have n11_ := Aside0.mk (blk_below BK11.out hb); have n0_ := Aside0.mk (below_step HB.out hb); have BK13 := Aside0.mk hbox; clear BK5; have BK5 := n5_; clear n5_; clear BK11; have BK11 := n11_; clear n11_; clear HB; have HB := n0_; clear n0_ hbox hb hg) | ((with_reducible refine gate_storeV (ty := 25) (x := .tmp 13) (y := .tmp 37) rfl ?_); refine store_eventV rfl 25 (.tmp 13) (.tmp 37) rfl g13 _ rfl rfl 25 _ BK13.out (by kernel_rfl) (rfl) (by simp [Value.oneCell']) ?_; intro ws13_37 hn ho hb; have n5_ := Aside0.mk ((ho _ (Ne.symm NE13_5.out)).trans BK5.out); have n11_ := Aside0.mk ((ho _ (Ne.symm NE13_11.out)).trans BK11.out); have n0_ := Aside0.mk (hb _ _ GE13.out HB.out); have nn_ := Aside0.mk hn; clear BK5; have BK5 := n5_; clear n5_; clear BK11; have BK11 := n11_; clear n11_; clear HB BK13; have HB := n0_; have BK13 := nn_; clear n0_ nn_ hn ho hb; (try clear x5_0); have x5_0 := (blk_cell BK5.out 0).trans rfl; (try clear x11_0); have x11_0 := (blk_cell BK11.out 0).trans rfl; (try clear x11_1); have x11_1 := (blk_cell BK11.out 1).trans rfl; (try clear x13_0); have x13_0 := (blk_cell BK13.out 0).trans rfl; (try clear x13_1); have x13_1 := (blk_cell BK13.out 1).trans rfl) | ((with_reducible refine gate_callee (f := 25) rfl ?_); refine goesL_ (some 38) rfl rfl Try.func25 (by kernel_rfl) rfl #[] rfl (by (try simp only [List.map_toArray, List.map_cons, List.map_nil]); first | done | rfl) ?_; refine (changeforgelaw7_anchorExample.calls k _ _ HEX.out).mono ?_; rintro e w4 ⟨rfl, hb⟩; refine ⟨_, rfl, ?_⟩; have n0_ := Aside0.mk (below_step HB.out hb); have n5_ := Aside0.mk (blk_below BK5.out hb); have n11_ := Aside0.mk (blk_below BK11.out hb); have n13_ := Aside0.mk (blk_below BK13.out hb); clear HB; have HB := n0_; clear n0_ hb; clear BK5; have BK5 := n5_; clear n5_; clear BK11; have BK11 := n11_; clear n11_; clear BK13; have BK13 := n13_; clear n13_; (try clear x5_0); have x5_0 := (blk_cell BK5.out 0).trans rfl; (try clear x11_0); have x11_0 := (blk_cell BK11.out 0).trans rfl; (try clear x11_1); have x11_1 := (blk_cell BK11.out 1).trans rfl; (try clear x13_0); have x13_0 := (blk_cell BK13.out 0).trans rfl; (try clear x13_1); have x13_1 := (blk_cell BK13.out 1).trans rfl) | ((with_reducible refine gate_dst (N := 14) rfl ?_); refine box_event ?hg (N := 14) ?hd (cs := #[.int .i64 0, .int .i64 0]) (t := 25) ?hr ?_; (case hd => rfl); (case hg => rfl); (case hr => first | kernel_rfl | (go_simp; done) | (go_simp; rfl)); intro g14 hg wn14 hbox hb; have GE14 : Aside0 (wk.heap.size ≤ g14) := Aside0.mk (by rw [hg]; exact HB.out.size); have NE14_5 : Aside0 (g14 ≠ g5) := Aside0.mk (by rw [hg]; exact Nat.ne_of_gt (blk_lt BK5.out)); have NE14_11 : Aside0 (g14 ≠ g11) := Aside0.mk (by rw [hg]; exact Nat.ne_of_gt (blk_lt BK11.out)); have NE14_13 : Aside0 (g14 ≠ g13) := Aside0.mk (by rw [hg]; exact Nat.ne_of_gt (blk_lt BK13.out)); have n5_ := Aside0.mk (blk_below BK5.out hb); have n11_ := Aside0.mk (blk_below BK11.out hb); have n13_ := Aside0.mk (blk_below BK13.out hb); have n0_ := Aside0.mk (below_step HB.out hb); have BK14 := Aside0.mk hbox; clear BK5; have BK5 := n5_; clear n5_; clear BK11; have BK11 := n11_; clear n11_; clear BK13; have BK13 := n13_; clear n13_; clear HB; have HB := n0_; clear n0_ hbox hb hg) | ((with_reducible refine gate_storeV (ty := 25) (x := .tmp 14) (y := .tmp 40) rfl ?_); refine store_eventV rfl 25 (.tmp 14) (.tmp 40) rfl g14 _ rfl rfl 25 _ BK14.out (by kernel_rfl) (rfl) (by simp [Value.oneCell']) ?_; intro ws14_40 hn ho hb; have n5_ := Aside0.mk ((ho _ (Ne.symm NE14_5.out)).trans BK5.out); have n11_ := Aside0.mk ((ho _ (Ne.symm NE14_11.out)).trans BK11.out); have n13_ := Aside0.mk ((ho _ (Ne.symm NE14_13.out)).trans BK13.out); have n0_ := Aside0.mk (hb _ _ GE14.out HB.out); have nn_ := Aside0.mk hn; clear BK5; have BK5 := n5_; clear n5_; clear BK11; have BK11 := n11_; clear n11_; clear BK13; have BK13 := n13_; clear n13_; clear HB BK14; have HB := n0_; have BK14 := nn_; clear n0_ nn_ hn ho hb; (try clear x5_0); have x5_0 := (blk_cell BK5.out 0).trans rfl; (try clear x11_0); have x11_0 := (blk_cell BK11.out 0).trans rfl; (try clear x11_1); have x11_1 := (blk_cell BK11.out 1).trans rfl; (try clear x13_0); have x13_0 := (blk_cell BK13.out 0).trans rfl; (try clear x13_1); have x13_1 := (blk_cell BK13.out 1).trans rfl; (try clear x14_0); have x14_0 := (blk_cell BK14.out 0).trans rfl; (try clear x14_1); have x14_1 := (blk_cell BK14.out 1).trans rfl) | fail)
        go_cut [8] (fun v8 wx => ∃ x1 x2 : Int, v8 = .bool false ∧ Aside0 (x1 = 0 → x2 = 0 ∧ thV k l0 0 = some (v1, v2)) ∧ Aside0 (x1 ≠ 0 → (x1, x2) = (v1, v2)) ∧ Aside0 (x1 = 0 → 0 ≤ a2 ∧ a2 < 120 ∧ l0.length ≤ 12) ∧ Aside0 (wx.heap[g5]? = some (.cells #[.slice A1_0 l1_0.length c1_0] 45 (0, 0))) ∧ Aside0 (wx.heap[g11]? = some (.cells #[.int .i64 m3, .int .i64 m4] 25 (0, 0))) ∧ Aside0 (wx.heap[g13]? = some (.cells #[.int .i64 k2, .int .i64 k3] 25 (0, 0))) ∧ Aside0 (wx.heap[g14]? = some (.cells #[.int .i64 x1, .int .i64 x2] 25 (0, 0))) ∧ Aside0 (Below wk.heap.size wk wx))
        case first =>
          as_aux_lemma =>
            by_cases hl : (l0.length : Int) > 12
            · have hx : decide ((l0.length : Int) > 12) = true := decide_eq_true hl
              have hx2 : decide ((12 : Int) < (l0.length : Int)) = true := decide_eq_true hl
              have e_ : (v1, v2) = (2, -1) := by have h_ := HV.out; unfold thV0 at h_; rw [if_pos hl] at h_; exact (Option.some.inj h_).symm
              go_wp2_with (first | ((with_reducible refine gate_callee (f := 19) rfl ?_); refine goesL_ (some 44) rfl rfl Try.func19 (by kernel_rfl) rfl #[.int .i64 2, .int .i64 (-1)] rfl (by (try simp only [List.map_toArray, List.map_cons, List.map_nil]); first | done | rfl) ?_; refine (changeforgeref7_Fault.calls 2 (-1) _ _ _ rfl).mono ?_; rintro e w4 ⟨rfl, hb⟩; refine ⟨_, rfl, ?_⟩; have n0_ := Aside0.mk (below_step HB.out hb); have n5_ := Aside0.mk (blk_below BK5.out hb); have n11_ := Aside0.mk (blk_below BK11.out hb); have n13_ := Aside0.mk (blk_below BK13.out hb); have n14_ := Aside0.mk (blk_below BK14.out hb); clear HB; have HB := n0_; clear n0_ hb; clear BK5; have BK5 := n5_; clear n5_; clear BK11; have BK11 := n11_; clear n11_; clear BK13; have BK13 := n13_; clear n13_; clear BK14; have BK14 := n14_; clear n14_; (try clear x5_0); have x5_0 := (blk_cell BK5.out 0).trans rfl; (try clear x11_0); have x11_0 := (blk_cell BK11.out 0).trans rfl; (try clear x11_1); have x11_1 := (blk_cell BK11.out 1).trans rfl; (try clear x13_0); have x13_0 := (blk_cell BK13.out 0).trans rfl; (try clear x13_1); have x13_1 := (blk_cell BK13.out 1).trans rfl; (try clear x14_0); have x14_0 := (blk_cell BK14.out 0).trans rfl; (try clear x14_1); have x14_1 := (blk_cell BK14.out 1).trans rfl) | ((with_reducible refine gate_storeV (ty := 25) (x := .tmp 14) (y := .tmp 44) rfl ?_); refine store_eventV rfl 25 (.tmp 14) (.tmp 44) rfl g14 _ rfl rfl 25 _ BK14.out (by kernel_rfl) (rfl) (by simp [Value.oneCell']) ?_; intro ws14_44 hn ho hb; have n5_ := Aside0.mk ((ho _ (Ne.symm NE14_5.out)).trans BK5.out); have n11_ := Aside0.mk ((ho _ (Ne.symm NE14_11.out)).trans BK11.out); have n13_ := Aside0.mk ((ho _ (Ne.symm NE14_13.out)).trans BK13.out); have n0_ := Aside0.mk (hb _ _ GE14.out HB.out); have nn_ := Aside0.mk hn; clear BK5; have BK5 := n5_; clear n5_; clear BK11; have BK11 := n11_; clear n11_; clear BK13; have BK13 := n13_; clear n13_; clear HB BK14; have HB := n0_; have BK14 := nn_; clear n0_ nn_ hn ho hb; (try clear x5_0); have x5_0 := (blk_cell BK5.out 0).trans rfl; (try clear x11_0); have x11_0 := (blk_cell BK11.out 0).trans rfl; (try clear x11_1); have x11_1 := (blk_cell BK11.out 1).trans rfl; (try clear x13_0); have x13_0 := (blk_cell BK13.out 0).trans rfl; (try clear x13_1); have x13_1 := (blk_cell BK13.out 1).trans rfl; (try clear x14_0); have x14_0 := (blk_cell BK14.out 0).trans rfl; (try clear x14_1); have x14_1 := (blk_cell BK14.out 1).trans rfl) | fail)
              go_meet
              exact ⟨2, -1, rfl, ⟨fun e => absurd e (by decide)⟩, ⟨fun _ => e_.symm⟩, ⟨fun e => absurd e (by decide)⟩, BK5, BK11, BK13, BK14, HB⟩
            · have hx : decide ((l0.length : Int) > 12) = false := decide_eq_false hl
              have hx2 : decide ((12 : Int) < (l0.length : Int)) = false := decide_eq_false hl
              by_cases hr : a2 < 0 ∨ a2 ≥ 120
              · have e_ : (v1, v2) = (3, -2) := by have h_ := HV.out; unfold thV0 at h_; rw [if_neg hl, if_pos hr] at h_; exact (Option.some.inj h_).symm
                have HRF := Aside0.mk (range_out hr)
                clear hr
                go_wp2_with (first | ((with_reducible refine gate_callee (f := 26) rfl ?_); refine goesL_ (some 46) rfl rfl Try.func26 (by kernel_rfl) rfl #[.int .i64 a2] rfl (by (try simp only [List.map_toArray, List.map_cons, List.map_nil]); first | done | rfl) ?_; refine (changeforgelaw7_rangeFault.calls a2 _ _ _ HRF.out).mono ?_; rintro e w4 ⟨rfl, hb⟩; refine ⟨_, rfl, ?_⟩; have n0_ := Aside0.mk (below_step HB.out hb); have n5_ := Aside0.mk (blk_below BK5.out hb); have n11_ := Aside0.mk (blk_below BK11.out hb); have n13_ := Aside0.mk (blk_below BK13.out hb); have n14_ := Aside0.mk (blk_below BK14.out hb); clear HB; have HB := n0_; clear n0_ hb; clear BK5; have BK5 := n5_; clear n5_; clear BK11; have BK11 := n11_; clear n11_; clear BK13; have BK13 := n13_; clear n13_; clear BK14; have BK14 := n14_; clear n14_; (try clear x5_0); have x5_0 := (blk_cell BK5.out 0).trans rfl; (try clear x11_0); have x11_0 := (blk_cell BK11.out 0).trans rfl; (try clear x11_1); have x11_1 := (blk_cell BK11.out 1).trans rfl; (try clear x13_0); have x13_0 := (blk_cell BK13.out 0).trans rfl; (try clear x13_1); have x13_1 := (blk_cell BK13.out 1).trans rfl; (try clear x14_0); have x14_0 := (blk_cell BK14.out 0).trans rfl; (try clear x14_1); have x14_1 := (blk_cell BK14.out 1).trans rfl) | ((with_reducible refine gate_storeV (ty := 25) (x := .tmp 14) (y := .tmp 46) rfl ?_); refine store_eventV rfl 25 (.tmp 14) (.tmp 46) rfl g14 _ rfl rfl 25 _ BK14.out (by kernel_rfl) (rfl) (by simp [Value.oneCell']) ?_; intro ws14_46 hn ho hb; have n5_ := Aside0.mk ((ho _ (Ne.symm NE14_5.out)).trans BK5.out); have n11_ := Aside0.mk ((ho _ (Ne.symm NE14_11.out)).trans BK11.out); have n13_ := Aside0.mk ((ho _ (Ne.symm NE14_13.out)).trans BK13.out); have n0_ := Aside0.mk (hb _ _ GE14.out HB.out); have nn_ := Aside0.mk hn; clear BK5; have BK5 := n5_; clear n5_; clear BK11; have BK11 := n11_; clear n11_; clear BK13; have BK13 := n13_; clear n13_; clear HB BK14; have HB := n0_; have BK14 := nn_; clear n0_ nn_ hn ho hb; (try clear x5_0); have x5_0 := (blk_cell BK5.out 0).trans rfl; (try clear x11_0); have x11_0 := (blk_cell BK11.out 0).trans rfl; (try clear x11_1); have x11_1 := (blk_cell BK11.out 1).trans rfl; (try clear x13_0); have x13_0 := (blk_cell BK13.out 0).trans rfl; (try clear x13_1); have x13_1 := (blk_cell BK13.out 1).trans rfl; (try clear x14_0); have x14_0 := (blk_cell BK14.out 0).trans rfl; (try clear x14_1); have x14_1 := (blk_cell BK14.out 1).trans rfl) | fail)
                go_meet
                exact ⟨3, -2, rfl, ⟨fun e => absurd e (by decide)⟩, ⟨fun _ => e_.symm⟩, ⟨fun e => absurd e (by decide)⟩, BK5, BK11, BK13, BK14, HB⟩
              · have e_ : thV k l0 0 = some (v1, v2) := by have h_ := HV.out; unfold thV0 at h_; rw [if_neg hl, if_neg hr] at h_; exact h_
                have hr0 : 0 ≤ a2 := by omega
                have hr1 : a2 < 120 := by omega
                have hr2 : l0.length ≤ 12 := by omega
                have HRF := Aside0.mk (range_in hr0 hr1)
                have H3 := Aside0.mk (And.intro hr0 (And.intro hr1 hr2))
                have E_ := Aside0.mk e_
                clear hr hr0 hr1 hr2 e_
                go_wp2_with (first | ((with_reducible refine gate_callee (f := 26) rfl ?_); refine goesL_ (some 46) rfl rfl Try.func26 (by kernel_rfl) rfl #[.int .i64 a2] rfl (by (try simp only [List.map_toArray, List.map_cons, List.map_nil]); first | done | rfl) ?_; refine (changeforgelaw7_rangeFault.calls a2 _ _ _ HRF.out).mono ?_; rintro e w4 ⟨rfl, hb⟩; refine ⟨_, rfl, ?_⟩; have n0_ := Aside0.mk (below_step HB.out hb); have n5_ := Aside0.mk (blk_below BK5.out hb); have n11_ := Aside0.mk (blk_below BK11.out hb); have n13_ := Aside0.mk (blk_below BK13.out hb); have n14_ := Aside0.mk (blk_below BK14.out hb); clear HB; have HB := n0_; clear n0_ hb; clear BK5; have BK5 := n5_; clear n5_; clear BK11; have BK11 := n11_; clear n11_; clear BK13; have BK13 := n13_; clear n13_; clear BK14; have BK14 := n14_; clear n14_; (try clear x5_0); have x5_0 := (blk_cell BK5.out 0).trans rfl; (try clear x11_0); have x11_0 := (blk_cell BK11.out 0).trans rfl; (try clear x11_1); have x11_1 := (blk_cell BK11.out 1).trans rfl; (try clear x13_0); have x13_0 := (blk_cell BK13.out 0).trans rfl; (try clear x13_1); have x13_1 := (blk_cell BK13.out 1).trans rfl; (try clear x14_0); have x14_0 := (blk_cell BK14.out 0).trans rfl; (try clear x14_1); have x14_1 := (blk_cell BK14.out 1).trans rfl) | ((with_reducible refine gate_storeV (ty := 25) (x := .tmp 14) (y := .tmp 46) rfl ?_); refine store_eventV rfl 25 (.tmp 14) (.tmp 46) rfl g14 _ rfl rfl 25 _ BK14.out (by kernel_rfl) (rfl) (by simp [Value.oneCell']) ?_; intro ws14_46 hn ho hb; have n5_ := Aside0.mk ((ho _ (Ne.symm NE14_5.out)).trans BK5.out); have n11_ := Aside0.mk ((ho _ (Ne.symm NE14_11.out)).trans BK11.out); have n13_ := Aside0.mk ((ho _ (Ne.symm NE14_13.out)).trans BK13.out); have n0_ := Aside0.mk (hb _ _ GE14.out HB.out); have nn_ := Aside0.mk hn; clear BK5; have BK5 := n5_; clear n5_; clear BK11; have BK11 := n11_; clear n11_; clear BK13; have BK13 := n13_; clear n13_; clear HB BK14; have HB := n0_; have BK14 := nn_; clear n0_ nn_ hn ho hb; (try clear x5_0); have x5_0 := (blk_cell BK5.out 0).trans rfl; (try clear x11_0); have x11_0 := (blk_cell BK11.out 0).trans rfl; (try clear x11_1); have x11_1 := (blk_cell BK11.out 1).trans rfl; (try clear x13_0); have x13_0 := (blk_cell BK13.out 0).trans rfl; (try clear x13_1); have x13_1 := (blk_cell BK13.out 1).trans rfl; (try clear x14_0); have x14_0 := (blk_cell BK14.out 0).trans rfl; (try clear x14_1); have x14_1 := (blk_cell BK14.out 1).trans rfl) | fail)
                go_meet
                exact ⟨0, 0, rfl, ⟨fun _ => ⟨rfl, E_.out⟩⟩, ⟨fun e => absurd rfl e⟩, ⟨fun _ => H3.out⟩, BK5, BK11, BK13, BK14, HB⟩
        case rest =>
          clear BK5 BK11 BK13 BK14 HB
          obtain ⟨x1, x2, rfl, X1, X2, X3, BK5, BK11, BK13, BK14, HB⟩ := hcut

          clear HV
          (try clear x14_0)
          have x14_0 := (blk_cell BK14.out 0).trans rfl
          (try clear x14_1)
          have x14_1 := (blk_cell BK14.out 1).trans rfl
          go_upto_block 0 with fail
          go_cut [15] (fun v15 wx => ∃ i : Int, v15 = .int .i64 i ∧ Aside0 (v1 = 0 → 0 ≤ a2 ∧ a2 < 120 ∧ l0.length ≤ 12) ∧ Aside0 (wx.heap[g5]? = some (.cells #[.slice A1_0 l1_0.length c1_0] 45 (0, 0))) ∧ Aside0 (wx.heap[g11]? = some (.cells #[.int .i64 m3, .int .i64 m4] 25 (0, 0))) ∧ Aside0 (wx.heap[g13]? = some (.cells #[.int .i64 k2, .int .i64 k3] 25 (0, 0))) ∧ Aside0 (wx.heap[g14]? = some (.cells #[.int .i64 v1, .int .i64 v2] 25 (0, 0))) ∧ Aside0 (Below wk.heap.size wk wx))
          case first =>
            as_aux_lemma =>
              go_wp2_with fail
              go_loopg [15] l0.length (fun kq v15 w' => ∃ (done rest : List S45) (x1 x2 : Int), v15 = .int .i64 (done.length : Int) ∧ Aside0 (rest.length = kq) ∧ Aside0 (l0 = done ++ rest) ∧ Aside0 (x1 = 0 → x2 = 0 ∧ thV k rest done.length = some (v1, v2)) ∧ Aside0 (x1 ≠ 0 → (x1, x2) = (v1, v2)) ∧ Aside0 (x1 = 0 → 0 ≤ a2 ∧ a2 < 120 ∧ l0.length ≤ 12) ∧ Aside0 (w'.heap[g5]? = some (.cells #[.slice A1_0 l1_0.length c1_0] 45 (0, 0))) ∧ Aside0 (w'.heap[g11]? = some (.cells #[.int .i64 m3, .int .i64 m4] 25 (0, 0))) ∧ Aside0 (w'.heap[g13]? = some (.cells #[.int .i64 k2, .int .i64 k3] 25 (0, 0))) ∧ Aside0 (w'.heap[g14]? = some (.cells #[.int .i64 x1, .int .i64 x2] 25 (0, 0))) ∧ Aside0 (Below wk.heap.size wk w'))
              case atStart => exact ⟨[], l0, x1, x2, rfl, ⟨rfl⟩, ⟨rfl⟩, X1, X2, X3, BK5, BK11, BK13, BK14, HB⟩
              case round =>
                clear X1 X2 X3 BK5 BK11 BK13 BK14 HB x14_0 x14_1
                obtain ⟨done, rest, x1, x2, rfl, HK, HL, X1, X2, X3, BK5, BK11, BK13, BK14, HB⟩ := hrel
                (try clear x14_0)
                have x14_0 := (blk_cell BK14.out 0).trans rfl
                (try clear x14_1)
                have x14_1 := (blk_cell BK14.out 1).trans rfl
                by_cases hz : x1 = 0
                · subst hz
                  obtain ⟨rfl, hx1⟩ := X1.out rfl
                  obtain ⟨ha0, ha1, ha2⟩ := X3.out rfl
                  have H3 := Aside0.mk (And.intro ha0 (And.intro ha1 ha2))
                  cases rest with
                  | nil =>
                    have hx : decide ((done.length : Int) < (l0.length : Int)) = false := decide_eq_false (by rw [HL.out]; simp)
                    have hxn : ¬ done.length < l0.length := by rw [HL.out]; simp
                    have e_ : (0, 0) = (v1, v2) := Option.some.inj hx1
                    obtain ⟨e1, e2⟩ := Prod.mk.inj e_
                    clear X1 X2 X3 hx1 e_
                    subst e1
                    subst e2
                    clear ha0 ha1 ha2
                    go_wp2_with fail
                    go_meet
                    exact ⟨_, rfl, ⟨fun _ => H3.out⟩, BK5, BK11, BK13, BK14, HB⟩
                  | cons e t =>
                    have hjl : done.length + (t.length + 1) = l0.length := by rw [HL.out, List.length_append, List.length_cons]
                    have hx : decide ((done.length : Int) < (l0.length : Int)) = true := decide_eq_true (by omega)
                    have hxn : done.length < l0.length := by omega
                    have hxp : (done.length : Int) < (l0.length : Int) := by omega
                    have hx0 : (0 : Int) ≤ (done.length : Int) := by omega
                    obtain ⟨kz, hkz⟩ : ∃ kz, gk = kz + 1 := ⟨t.length, by have := HK.out; rw [List.length_cons] at this; omega⟩
                    have HK1 : Aside0 (t.length = kz) := ⟨by have := HK.out; rw [List.length_cons] at this; omega⟩
                    have hw1 : Aside0 (wrap64 ((done.length : Int) + 1) = ((done ++ [e]).length : Int)) := ⟨by
                      rw [List.length_append, List.length_singleton]
                      unfold wrap64
                      omega⟩
                    have HKZ := Aside0.mk hkz
                    obtain ⟨ad, Ae, ce, hA, y0, hce, hre⟩ := at_T45 HR0.out (done.length : Int) hx0 hxp
                    have he : rd_T45 l0 (done.length : Int) = e := by rw [HL.out]; exact at_mid45 _ _ _
                    rw [he] at y0 hce hre
                    rw [Int.toNat_natCast] at y0
                    subst hA
                    have HRE := Aside0.mk hre
                    have HCE := Aside0.mk hce
                    have hbb := below_step HA.out HB.out
                    have yy0 := (Below.cell hbb (World.block_lt_of_cell? w _ y0)).trans y0
                    have YW := Aside0.mk y0
                    obtain ⟨⟨q1, q2⟩, hve, hx1⟩ := Option.bind_eq_some_iff.mp hx1
                    have HVE := Aside0.mk hve
                    have HX1 := Aside0.mk hx1
                    clear hve hx1 y0 he hce hre hbb hkz hjl ha0 ha1 ha2 X1 X2 X3
                    by_cases hq : q1 = 0
                    · have hx2 : thV k t (done.length + 1) = some (v1, v2) := by have h_ := HX1.out; rw [if_pos hq] at h_; exact h_
                      have HX2 := Aside0.mk hx2
                      clear hx2 HX1
                      subst hq
                      go_wp2_with (first | ((with_reducible refine gate_callee (f := 27) rfl ?_); refine goesL_ (some 62) rfl rfl Try.func27 (by kernel_rfl) rfl #[.agg #[.slice Ae e.f0.length ce]] rfl (by (try simp only [List.map_toArray, List.map_cons, List.map_nil]); first | done | rfl) ?_; refine (textpatch_Validate.calls k Ae ce e.f0 _ _ _ (Kd.C_below HRE.out (below_step HA.out HB.out)) HCE.out HVE.out).mono ?_; rintro e4 w4 ⟨rfl, hb⟩; refine ⟨_, rfl, ?_⟩; have n0_ := Aside0.mk (below_step HB.out hb); have n5_ := Aside0.mk (blk_below BK5.out hb); have n11_ := Aside0.mk (blk_below BK11.out hb); have n13_ := Aside0.mk (blk_below BK13.out hb); have n14_ := Aside0.mk (blk_below BK14.out hb); clear HB; have HB := n0_; clear n0_ hb; clear BK5; have BK5 := n5_; clear n5_; clear BK11; have BK11 := n11_; clear n11_; clear BK13; have BK13 := n13_; clear n13_; clear BK14; have BK14 := n14_; clear n14_; (try clear x5_0); have x5_0 := (blk_cell BK5.out 0).trans rfl; (try clear x11_0); have x11_0 := (blk_cell BK11.out 0).trans rfl; (try clear x11_1); have x11_1 := (blk_cell BK11.out 1).trans rfl; (try clear x13_0); have x13_0 := (blk_cell BK13.out 0).trans rfl; (try clear x13_1); have x13_1 := (blk_cell BK13.out 1).trans rfl; (try clear x14_0); have x14_0 := (blk_cell BK14.out 0).trans rfl; (try clear x14_1); have x14_1 := (blk_cell BK14.out 1).trans rfl) | ((with_reducible refine gate_callee (f := 27) rfl ?_); refine goesL_ (some 69) rfl rfl Try.func27 (by kernel_rfl) rfl #[.agg #[.slice Ae e.f0.length ce]] rfl (by (try simp only [List.map_toArray, List.map_cons, List.map_nil]); first | done | rfl) ?_; refine (textpatch_Validate.calls k Ae ce e.f0 _ _ _ (Kd.C_below HRE.out (below_step HA.out HB.out)) HCE.out HVE.out).mono ?_; rintro e4 w4 ⟨rfl, hb⟩; refine ⟨_, rfl, ?_⟩; have n0_ := Aside0.mk (below_step HB.out hb); have n5_ := Aside0.mk (blk_below BK5.out hb); have n11_ := Aside0.mk (blk_below BK11.out hb); have n13_ := Aside0.mk (blk_below BK13.out hb); have n14_ := Aside0.mk (blk_below BK14.out hb); clear HB; have HB := n0_; clear n0_ hb; clear BK5; have BK5 := n5_; clear n5_; clear BK11; have BK11 := n11_; clear n11_; clear BK13; have BK13 := n13_; clear n13_; clear BK14; have BK14 := n14_; clear n14_; (try clear x5_0); have x5_0 := (blk_cell BK5.out 0).trans rfl; (try clear x11_0); have x11_0 := (blk_cell BK11.out 0).trans rfl; (try clear x11_1); have x11_1 := (blk_cell BK11.out 1).trans rfl; (try clear x13_0); have x13_0 := (blk_cell BK13.out 0).trans rfl; (try clear x13_1); have x13_1 := (blk_cell BK13.out 1).trans rfl; (try clear x14_0); have x14_0 := (blk_cell BK14.out 0).trans rfl; (try clear x14_1); have x14_1 := (blk_cell BK14.out 1).trans rfl) | ((with_reducible refine gate_callee (f := 19) rfl ?_); refine goesL_ (some 72) rfl rfl Try.func19 (by kernel_rfl) rfl #[.int .i64 q1, .int .i64 (done.length : Int)] rfl (by (try simp only [List.map_toArray, List.map_cons, List.map_nil]); first | done | rfl) ?_; refine (changeforgeref7_Fault.calls q1 (done.length : Int) _ _ _ rfl).mono ?_; rintro e4 w4 ⟨rfl, hb⟩; refine ⟨_, rfl, ?_⟩; have n0_ := Aside0.mk (below_step HB.out hb); have n5_ := Aside0.mk (blk_below BK5.out hb); have n11_ := Aside0.mk (blk_below BK11.out hb); have n13_ := Aside0.mk (blk_below BK13.out hb); have n14_ := Aside0.mk (blk_below BK14.out hb); clear HB; have HB := n0_; clear n0_ hb; clear BK5; have BK5 := n5_; clear n5_; clear BK11; have BK11 := n11_; clear n11_; clear BK13; have BK13 := n13_; clear n13_; clear BK14; have BK14 := n14_; clear n14_; (try clear x5_0); have x5_0 := (blk_cell BK5.out 0).trans rfl; (try clear x11_0); have x11_0 := (blk_cell BK11.out 0).trans rfl; (try clear x11_1); have x11_1 := (blk_cell BK11.out 1).trans rfl; (try clear x13_0); have x13_0 := (blk_cell BK13.out 0).trans rfl; (try clear x13_1); have x13_1 := (blk_cell BK13.out 1).trans rfl; (try clear x14_0); have x14_0 := (blk_cell BK14.out 0).trans rfl; (try clear x14_1); have x14_1 := (blk_cell BK14.out 1).trans rfl) | ((with_reducible refine gate_storeV (ty := 25) (x := .tmp 14) (y := .tmp 72) rfl ?_); refine store_eventV rfl 25 (.tmp 14) (.tmp 72) rfl g14 _ rfl rfl 25 _ BK14.out (by kernel_rfl) (rfl) (by simp [Value.oneCell']) ?_; intro ws14_72 hn ho hb; have n5_ := Aside0.mk ((ho _ (Ne.symm NE14_5.out)).trans BK5.out); have n11_ := Aside0.mk ((ho _ (Ne.symm NE14_11.out)).trans BK11.out); have n13_ := Aside0.mk ((ho _ (Ne.symm NE14_13.out)).trans BK13.out); have n0_ := Aside0.mk (hb _ _ GE14.out HB.out); have nn_ := Aside0.mk hn; clear BK5; have BK5 := n5_; clear n5_; clear BK11; have BK11 := n11_; clear n11_; clear BK13; have BK13 := n13_; clear n13_; clear HB BK14; have HB := n0_; have BK14 := nn_; clear n0_ nn_ hn ho hb; (try clear x5_0); have x5_0 := (blk_cell BK5.out 0).trans rfl; (try clear x11_0); have x11_0 := (blk_cell BK11.out 0).trans rfl; (try clear x11_1); have x11_1 := (blk_cell BK11.out 1).trans rfl; (try clear x13_0); have x13_0 := (blk_cell BK13.out 0).trans rfl; (try clear x13_1); have x13_1 := (blk_cell BK13.out 1).trans rfl; (try clear x14_0); have x14_0 := (blk_cell BK14.out 0).trans rfl; (try clear x14_1); have x14_1 := (blk_cell BK14.out 1).trans rfl) | fail)
                      have hkz := HKZ.out
                      go_roundg kz
                      case measure => omega
                      case rel => exact ⟨done ++ [e], t, 0, 0, by first | exact congrArg _ hw1.out | (rw [List.length_append, List.length_singleton]; rfl), HK1, ⟨by rw [HL.out, List.append_assoc]; rfl⟩, ⟨fun _ => ⟨rfl, by rw [List.length_append, List.length_singleton]; exact HX2.out⟩⟩, ⟨fun e => absurd rfl e⟩, ⟨fun _ => H3.out⟩, BK5, BK11, BK13, BK14, HB⟩
                    · have hx2 : (q1, (done.length : Int)) = (v1, v2) := by have h_ := HX1.out; rw [if_neg hq] at h_; exact Option.some.inj h_
                      have HX2 := Aside0.mk hx2
                      have z0 : (q1 == 0) = false := beq_eq_false_iff_ne.mpr hq
                      have z1 : (q1 != 0) = true := bne_iff_ne.mpr hq
                      clear hx2 HX1
                      go_upto_if 64 with (first | ((with_reducible refine gate_callee (f := 27) rfl ?_); refine goesL_ (some 62) rfl rfl Try.func27 (by kernel_rfl) rfl #[.agg #[.slice Ae e.f0.length ce]] rfl (by (try simp only [List.map_toArray, List.map_cons, List.map_nil]); first | done | rfl) ?_; refine (textpatch_Validate.calls k Ae ce e.f0 _ _ _ (Kd.C_below HRE.out (below_step HA.out HB.out)) HCE.out HVE.out).mono ?_; rintro e4 w4 ⟨rfl, hb⟩; refine ⟨_, rfl, ?_⟩; have n0_ := Aside0.mk (below_step HB.out hb); have n5_ := Aside0.mk (blk_below BK5.out hb); have n11_ := Aside0.mk (blk_below BK11.out hb); have n13_ := Aside0.mk (blk_below BK13.out hb); have n14_ := Aside0.mk (blk_below BK14.out hb); clear HB; have HB := n0_; clear n0_ hb; clear BK5; have BK5 := n5_; clear n5_; clear BK11; have BK11 := n11_; clear n11_; clear BK13; have BK13 := n13_; clear n13_; clear BK14; have BK14 := n14_; clear n14_; (try clear x5_0); have x5_0 := (blk_cell BK5.out 0).trans rfl; (try clear x11_0); have x11_0 := (blk_cell BK11.out 0).trans rfl; (try clear x11_1); have x11_1 := (blk_cell BK11.out 1).trans rfl; (try clear x13_0); have x13_0 := (blk_cell BK13.out 0).trans rfl; (try clear x13_1); have x13_1 := (blk_cell BK13.out 1).trans rfl; (try clear x14_0); have x14_0 := (blk_cell BK14.out 0).trans rfl; (try clear x14_1); have x14_1 := (blk_cell BK14.out 1).trans rfl) | ((with_reducible refine gate_callee (f := 27) rfl ?_); refine goesL_ (some 69) rfl rfl Try.func27 (by kernel_rfl) rfl #[.agg #[.slice Ae e.f0.length ce]] rfl (by (try simp only [List.map_toArray, List.map_cons, List.map_nil]); first | done | rfl) ?_; refine (textpatch_Validate.calls k Ae ce e.f0 _ _ _ (Kd.C_below HRE.out (below_step HA.out HB.out)) HCE.out HVE.out).mono ?_; rintro e4 w4 ⟨rfl, hb⟩; refine ⟨_, rfl, ?_⟩; have n0_ := Aside0.mk (below_step HB.out hb); have n5_ := Aside0.mk (blk_below BK5.out hb); have n11_ := Aside0.mk (blk_below BK11.out hb); have n13_ := Aside0.mk (blk_below BK13.out hb); have n14_ := Aside0.mk (blk_below BK14.out hb); clear HB; have HB := n0_; clear n0_ hb; clear BK5; have BK5 := n5_; clear n5_; clear BK11; have BK11 := n11_; clear n11_; clear BK13; have BK13 := n13_; clear n13_; clear BK14; have BK14 := n14_; clear n14_; (try clear x5_0); have x5_0 := (blk_cell BK5.out 0).trans rfl; (try clear x11_0); have x11_0 := (blk_cell BK11.out 0).trans rfl; (try clear x11_1); have x11_1 := (blk_cell BK11.out 1).trans rfl; (try clear x13_0); have x13_0 := (blk_cell BK13.out 0).trans rfl; (try clear x13_1); have x13_1 := (blk_cell BK13.out 1).trans rfl; (try clear x14_0); have x14_0 := (blk_cell BK14.out 0).trans rfl; (try clear x14_1); have x14_1 := (blk_cell BK14.out 1).trans rfl) | ((with_reducible refine gate_callee (f := 19) rfl ?_); refine goesL_ (some 72) rfl rfl Try.func19 (by kernel_rfl) rfl #[.int .i64 q1, .int .i64 (done.length : Int)] rfl (by (try simp only [List.map_toArray, List.map_cons, List.map_nil]); first | done | rfl) ?_; refine (changeforgeref7_Fault.calls q1 (done.length : Int) _ _ _ rfl).mono ?_; rintro e4 w4 ⟨rfl, hb⟩; refine ⟨_, rfl, ?_⟩; have n0_ := Aside0.mk (below_step HB.out hb); have n5_ := Aside0.mk (blk_below BK5.out hb); have n11_ := Aside0.mk (blk_below BK11.out hb); have n13_ := Aside0.mk (blk_below BK13.out hb); have n14_ := Aside0.mk (blk_below BK14.out hb); clear HB; have HB := n0_; clear n0_ hb; clear BK5; have BK5 := n5_; clear n5_; clear BK11; have BK11 := n11_; clear n11_; clear BK13; have BK13 := n13_; clear n13_; clear BK14; have BK14 := n14_; clear n14_; (try clear x5_0); have x5_0 := (blk_cell BK5.out 0).trans rfl; (try clear x11_0); have x11_0 := (blk_cell BK11.out 0).trans rfl; (try clear x11_1); have x11_1 := (blk_cell BK11.out 1).trans rfl; (try clear x13_0); have x13_0 := (blk_cell BK13.out 0).trans rfl; (try clear x13_1); have x13_1 := (blk_cell BK13.out 1).trans rfl; (try clear x14_0); have x14_0 := (blk_cell BK14.out 0).trans rfl; (try clear x14_1); have x14_1 := (blk_cell BK14.out 1).trans rfl) | ((with_reducible refine gate_storeV (ty := 25) (x := .tmp 14) (y := .tmp 72) rfl ?_); refine store_eventV rfl 25 (.tmp 14) (.tmp 72) rfl g14 _ rfl rfl 25 _ BK14.out (by kernel_rfl) (rfl) (by simp [Value.oneCell']) ?_; intro ws14_72 hn ho hb; have n5_ := Aside0.mk ((ho _ (Ne.symm NE14_5.out)).trans BK5.out); have n11_ := Aside0.mk ((ho _ (Ne.symm NE14_11.out)).trans BK11.out); have n13_ := Aside0.mk ((ho _ (Ne.symm NE14_13.out)).trans BK13.out); have n0_ := Aside0.mk (hb _ _ GE14.out HB.out); have nn_ := Aside0.mk hn; clear BK5; have BK5 := n5_; clear n5_; clear BK11; have BK11 := n11_; clear n11_; clear BK13; have BK13 := n13_; clear n13_; clear HB BK14; have HB := n0_; have BK14 := nn_; clear n0_ nn_ hn ho hb; (try clear x5_0); have x5_0 := (blk_cell BK5.out 0).trans rfl; (try clear x11_0); have x11_0 := (blk_cell BK11.out 0).trans rfl; (try clear x11_1); have x11_1 := (blk_cell BK11.out 1).trans rfl; (try clear x13_0); have x13_0 := (blk_cell BK13.out 0).trans rfl; (try clear x13_1); have x13_1 := (blk_cell BK13.out 1).trans rfl; (try clear x14_0); have x14_0 := (blk_cell BK14.out 0).trans rfl; (try clear x14_1); have x14_1 := (blk_cell BK14.out 1).trans rfl) | fail)
                      have hbb := below_step HA.out HB.out
                      have yy1 := (Below.cell hbb (World.block_lt_of_cell? w _ YW.out)).trans YW.out
                      clear hbb
                      go_wp2_with (first | ((with_reducible refine gate_callee (f := 27) rfl ?_); refine goesL_ (some 62) rfl rfl Try.func27 (by kernel_rfl) rfl #[.agg #[.slice Ae e.f0.length ce]] rfl (by (try simp only [List.map_toArray, List.map_cons, List.map_nil]); first | done | rfl) ?_; refine (textpatch_Validate.calls k Ae ce e.f0 _ _ _ (Kd.C_below HRE.out (below_step HA.out HB.out)) HCE.out HVE.out).mono ?_; rintro e4 w4 ⟨rfl, hb⟩; refine ⟨_, rfl, ?_⟩; have n0_ := Aside0.mk (below_step HB.out hb); have n5_ := Aside0.mk (blk_below BK5.out hb); have n11_ := Aside0.mk (blk_below BK11.out hb); have n13_ := Aside0.mk (blk_below BK13.out hb); have n14_ := Aside0.mk (blk_below BK14.out hb); clear HB; have HB := n0_; clear n0_ hb; clear BK5; have BK5 := n5_; clear n5_; clear BK11; have BK11 := n11_; clear n11_; clear BK13; have BK13 := n13_; clear n13_; clear BK14; have BK14 := n14_; clear n14_; (try clear x5_0); have x5_0 := (blk_cell BK5.out 0).trans rfl; (try clear x11_0); have x11_0 := (blk_cell BK11.out 0).trans rfl; (try clear x11_1); have x11_1 := (blk_cell BK11.out 1).trans rfl; (try clear x13_0); have x13_0 := (blk_cell BK13.out 0).trans rfl; (try clear x13_1); have x13_1 := (blk_cell BK13.out 1).trans rfl; (try clear x14_0); have x14_0 := (blk_cell BK14.out 0).trans rfl; (try clear x14_1); have x14_1 := (blk_cell BK14.out 1).trans rfl) | ((with_reducible refine gate_callee (f := 27) rfl ?_); refine goesL_ (some 69) rfl rfl Try.func27 (by kernel_rfl) rfl #[.agg #[.slice Ae e.f0.length ce]] rfl (by (try simp only [List.map_toArray, List.map_cons, List.map_nil]); first | done | rfl) ?_; refine (textpatch_Validate.calls k Ae ce e.f0 _ _ _ (Kd.C_below HRE.out (below_step HA.out HB.out)) HCE.out HVE.out).mono ?_; rintro e4 w4 ⟨rfl, hb⟩; refine ⟨_, rfl, ?_⟩; have n0_ := Aside0.mk (below_step HB.out hb); have n5_ := Aside0.mk (blk_below BK5.out hb); have n11_ := Aside0.mk (blk_below BK11.out hb); have n13_ := Aside0.mk (blk_below BK13.out hb); have n14_ := Aside0.mk (blk_below BK14.out hb); clear HB; have HB := n0_; clear n0_ hb; clear BK5; have BK5 := n5_; clear n5_; clear BK11; have BK11 := n11_; clear n11_; clear BK13; have BK13 := n13_; clear n13_; clear BK14; have BK14 := n14_; clear n14_; (try clear x5_0); have x5_0 := (blk_cell BK5.out 0).trans rfl; (try clear x11_0); have x11_0 := (blk_cell BK11.out 0).trans rfl; (try clear x11_1); have x11_1 := (blk_cell BK11.out 1).trans rfl; (try clear x13_0); have x13_0 := (blk_cell BK13.out 0).trans rfl; (try clear x13_1); have x13_1 := (blk_cell BK13.out 1).trans rfl; (try clear x14_0); have x14_0 := (blk_cell BK14.out 0).trans rfl; (try clear x14_1); have x14_1 := (blk_cell BK14.out 1).trans rfl) | ((with_reducible refine gate_callee (f := 19) rfl ?_); refine goesL_ (some 72) rfl rfl Try.func19 (by kernel_rfl) rfl #[.int .i64 q1, .int .i64 (done.length : Int)] rfl (by (try simp only [List.map_toArray, List.map_cons, List.map_nil]); first | done | rfl) ?_; refine (changeforgeref7_Fault.calls q1 (done.length : Int) _ _ _ rfl).mono ?_; rintro e4 w4 ⟨rfl, hb⟩; refine ⟨_, rfl, ?_⟩; have n0_ := Aside0.mk (below_step HB.out hb); have n5_ := Aside0.mk (blk_below BK5.out hb); have n11_ := Aside0.mk (blk_below BK11.out hb); have n13_ := Aside0.mk (blk_below BK13.out hb); have n14_ := Aside0.mk (blk_below BK14.out hb); clear HB; have HB := n0_; clear n0_ hb; clear BK5; have BK5 := n5_; clear n5_; clear BK11; have BK11 := n11_; clear n11_; clear BK13; have BK13 := n13_; clear n13_; clear BK14; have BK14 := n14_; clear n14_; (try clear x5_0); have x5_0 := (blk_cell BK5.out 0).trans rfl; (try clear x11_0); have x11_0 := (blk_cell BK11.out 0).trans rfl; (try clear x11_1); have x11_1 := (blk_cell BK11.out 1).trans rfl; (try clear x13_0); have x13_0 := (blk_cell BK13.out 0).trans rfl; (try clear x13_1); have x13_1 := (blk_cell BK13.out 1).trans rfl; (try clear x14_0); have x14_0 := (blk_cell BK14.out 0).trans rfl; (try clear x14_1); have x14_1 := (blk_cell BK14.out 1).trans rfl) | ((with_reducible refine gate_storeV (ty := 25) (x := .tmp 14) (y := .tmp 72) rfl ?_); refine store_eventV rfl 25 (.tmp 14) (.tmp 72) rfl g14 _ rfl rfl 25 _ BK14.out (by kernel_rfl) (rfl) (by simp [Value.oneCell']) ?_; intro ws14_72 hn ho hb; have n5_ := Aside0.mk ((ho _ (Ne.symm NE14_5.out)).trans BK5.out); have n11_ := Aside0.mk ((ho _ (Ne.symm NE14_11.out)).trans BK11.out); have n13_ := Aside0.mk ((ho _ (Ne.symm NE14_13.out)).trans BK13.out); have n0_ := Aside0.mk (hb _ _ GE14.out HB.out); have nn_ := Aside0.mk hn; clear BK5; have BK5 := n5_; clear n5_; clear BK11; have BK11 := n11_; clear n11_; clear BK13; have BK13 := n13_; clear n13_; clear HB BK14; have HB := n0_; have BK14 := nn_; clear n0_ nn_ hn ho hb; (try clear x5_0); have x5_0 := (blk_cell BK5.out 0).trans rfl; (try clear x11_0); have x11_0 := (blk_cell BK11.out 0).trans rfl; (try clear x11_1); have x11_1 := (blk_cell BK11.out 1).trans rfl; (try clear x13_0); have x13_0 := (blk_cell BK13.out 0).trans rfl; (try clear x13_1); have x13_1 := (blk_cell BK13.out 1).trans rfl; (try clear x14_0); have x14_0 := (blk_cell BK14.out 0).trans rfl; (try clear x14_1); have x14_1 := (blk_cell BK14.out 1).trans rfl) | fail)
                      have hkz := HKZ.out
                      go_roundg kz
                      case measure => omega
                      case rel => exact ⟨done ++ [e], t, q1, (done.length : Int), by first | exact congrArg _ hw1.out | (rw [List.length_append, List.length_singleton]; rfl), HK1, ⟨by rw [HL.out, List.append_assoc]; rfl⟩, ⟨fun e => absurd e hq⟩, ⟨fun _ => HX2.out⟩, ⟨fun e => absurd e hq⟩, BK5, BK11, BK13, BK14, HB⟩
                · have e_ := X2.out hz
                  obtain ⟨e1, e2⟩ := Prod.mk.inj e_
                  have z0 : (x1 == 0) = false := beq_eq_false_iff_ne.mpr hz
                  have z1 : (x1 != 0) = true := bne_iff_ne.mpr hz
                  clear e_ X1 X2 X3
                  subst e1
                  subst e2
                  by_cases hn : done.length < l0.length
                  · have hx : decide ((done.length : Int) < (l0.length : Int)) = true := decide_eq_true (by omega)
                    have hx2 : (done.length : Int) < (l0.length : Int) := by omega
                    go_wp2_with fail
                    go_meet
                    exact ⟨_, rfl, ⟨fun e => absurd e hz⟩, BK5, BK11, BK13, BK14, HB⟩
                  · have hx : decide ((done.length : Int) < (l0.length : Int)) = false := decide_eq_false (by omega)
                    go_wp2_with fail
                    go_meet
                    exact ⟨_, rfl, ⟨fun e => absurd e hz⟩, BK5, BK11, BK13, BK14, HB⟩
          case rest =>
            clear X1 X2 X3 BK5 BK11 BK13 BK14 HB x14_0 x14_1
            obtain ⟨i15, rfl, X3, BK5, BK11, BK13, BK14, HB⟩ := hcut
            (try clear x14_0)
            have x14_0 := (blk_cell BK14.out 0).trans rfl
            (try clear x14_1)
            have x14_1 := (blk_cell BK14.out 1).trans rfl
            go_upto_block 2 with fail
            go_cut [16, 17] (fun v16 v17 wx => v16 = .int .i64 u1 ∧ v17 = .int .i64 u2 ∧ Aside0 (wx.heap[g5]? = some (.cells #[.slice A1_0 l1_0.length c1_0] 45 (0, 0))) ∧ Aside0 (wx.heap[g11]? = some (.cells #[.int .i64 m3, .int .i64 m4] 25 (0, 0))) ∧ Aside0 (wx.heap[g13]? = some (.cells #[.int .i64 k2, .int .i64 k3] 25 (0, 0))) ∧ Aside0 (wx.heap[g14]? = some (.cells #[.int .i64 v1, .int .i64 v2] 25 (0, 0))) ∧ Aside0 (Below wk.heap.size wk wx))
            case first =>
              as_aux_lemma =>
                go_wp2_with fail
                go_loopg [16, 17] l0.length (fun kq v16 v17 w' => ∃ (done rest : List S45) (x : Int), v16 = .int .i64 x ∧ v17 = .int .i64 (done.length : Int) ∧ Aside0 (rest.length = kq) ∧ Aside0 (l0 = done ++ rest) ∧ Aside0 (v1 = 0 → 0 ≤ x ∧ thW rest x (done.length : Int) = some (u1, u2)) ∧ Aside0 (v1 ≠ 0 → x = u1 ∧ (done.length : Int) = u2) ∧ Aside0 (w'.heap[g5]? = some (.cells #[.slice A1_0 l1_0.length c1_0] 45 (0, 0))) ∧ Aside0 (w'.heap[g11]? = some (.cells #[.int .i64 m3, .int .i64 m4] 25 (0, 0))) ∧ Aside0 (w'.heap[g13]? = some (.cells #[.int .i64 k2, .int .i64 k3] 25 (0, 0))) ∧ Aside0 (w'.heap[g14]? = some (.cells #[.int .i64 v1, .int .i64 v2] 25 (0, 0))) ∧ Aside0 (Below wk.heap.size wk w'))
                case atStart => exact ⟨[], l0, a2, rfl, rfl, ⟨rfl⟩, ⟨rfl⟩, ⟨fun e => ⟨(X3.out e).1, by have h_ := HU.out; rw [if_pos e] at h_; exact h_⟩⟩, ⟨fun e => by have h_ := HU.out; rw [if_neg e] at h_; exact Prod.mk.inj (Option.some.inj h_)⟩, BK5, BK11, BK13, BK14, HB⟩
                case round =>
                  clear BK5 BK11 BK13 BK14 HB x14_0 x14_1
                  obtain ⟨done, rest, x, rfl, rfl, HK, HL, X1, X2, BK5, BK11, BK13, BK14, HB⟩ := hrel
                  (try clear x14_0)
                  have x14_0 := (blk_cell BK14.out 0).trans rfl
                  (try clear x14_1)
                  have x14_1 := (blk_cell BK14.out 1).trans rfl
                  by_cases hz : v1 = 0
                  · obtain ⟨x0, hx1⟩ := X1.out hz
                    have hl12 := (X3.out hz).2.2
                    have z0 : (v1 == 0) = true := beq_iff_eq.mpr hz
                    cases rest with
                    | nil =>
                      have hx : decide ((done.length : Int) < (l0.length : Int)) = false := decide_eq_false (by rw [HL.out]; simp)
                      have hxn : ¬ done.length < l0.length := by rw [HL.out]; simp
                      have e_ : (x, (done.length : Int)) = (u1, u2) := Option.some.inj hx1
                      obtain ⟨e1, e2⟩ := Prod.mk.inj e_
                      clear hx1 e_ x0 X1 X2
                      go_wp2_with fail
                      go_meet
                      exact ⟨by first | rfl | rw [e1], by first | rfl | rw [e2], BK5, BK11, BK13, BK14, HB⟩
                    | cons e t =>
                      have hjl : done.length + (t.length + 1) = l0.length := by rw [HL.out, List.length_append, List.length_cons]
                      have hx : decide ((done.length : Int) < (l0.length : Int)) = true := decide_eq_true (by omega)
                      have hxn : done.length < l0.length := by omega
                      have hxp : (done.length : Int) < (l0.length : Int) := by omega
                      have hx0 : (0 : Int) ≤ (done.length : Int) := by omega
                      by_cases hw : x < 120
                      · have hwd : decide (x < 120) = true := decide_eq_true hw
                        have hx2 := hx1
                        unfold thW at hx2
                        rw [if_pos hw] at hx2
                        by_cases hc : 0 ≤ x ∧ trOk 0 e.f0 = true ∧ e.f0.length ≤ 1000
                        · rw [if_pos hc] at hx2
                          obtain ⟨_, o1, o2⟩ := hc
                          have OT1 := Aside0.mk o1
                          have OT2 := Aside0.mk o2
                          clear o1 o2 hx1
                          obtain ⟨T, hT⟩ : ∃ T, trL e.f0 0 0 = T := ⟨_, rfl⟩
                          have HLT : Aside0 (T.length = 130) := ⟨by have h_ := trL_len e.f0 0 0 OT1.out; rw [hT, Nat.zero_add] at h_; exact h_⟩
                          have HLET : Aside0 (T.length ≤ 130) := ⟨Nat.le_of_eq HLT.out⟩
                          have HGE : Aside0 (0 ≤ (T.getD x.toNat (0, false)).1) := ⟨by rw [← hT]; exact trL_ge _ _ _ (Int.le_refl 0) _⟩
                          rw [hT] at hx2
                          have HT := Aside0.mk hT
                          have hln : x.toNat < 130 := by omega
                          have hl2 : x < 130 := by omega
                          obtain ⟨kz, hkz⟩ : ∃ kz, gk = kz + 1 := ⟨t.length, by have := HK.out; rw [List.length_cons] at this; omega⟩
                          have HK1 : Aside0 (t.length = kz) := ⟨by have := HK.out; rw [List.length_cons] at this; omega⟩
                          have hw1 : Aside0 (wrap64 ((done.length : Int) + 1) = ((done ++ [e]).length : Int)) := ⟨by
                            rw [List.length_append, List.length_singleton]
                            unfold wrap64
                            omega⟩
                          have HKZ := Aside0.mk hkz
                          obtain ⟨ad, Ae, ce, hA, y0, hce, hre⟩ := at_T45 HR0.out (done.length : Int) hx0 hxp
                          have he : rd_T45 l0 (done.length : Int) = e := by rw [HL.out]; exact at_mid45 _ _ _
                          rw [he] at y0 hce hre
                          rw [Int.toNat_natCast] at y0
                          subst hA
                          have HRE := Aside0.mk hre
                          have HCE := Aside0.mk hce
                          have hbb := below_step HA.out HB.out
                          have yy0 := (Below.cell hbb (World.block_lt_of_cell? w _ y0)).trans y0
                          clear y0 he hce hre hbb hkz hjl hT X1 X2 hw hl12
                          obtain ⟨pl, xt_⟩ : ∃ q, (T.getD x.toNat (0, false)).1 = q := ⟨_, rfl⟩
                          obtain ⟨kk, kt_⟩ : ∃ q, (T.getD x.toNat (0, false)).2 = q := ⟨_, rfl⟩
                          rw [xt_, kt_] at hx2
                          rw [xt_] at HGE
                          cases kk with
                          | false =>
                            have hx3 : (x, (done.length : Int)) = (u1, u2) := by rw [if_neg (by decide)] at hx2; exact Option.some.inj hx2
                            have HX2 := Aside0.mk hx3
                            clear hx2 hx3
                            go_wp2_with (first | ((with_reducible refine gate_callee (f := 28) rfl ?_); refine goesL_ (some 92) rfl rfl Try.func28 (by kernel_rfl) rfl #[.agg #[.slice Ae e.f0.length ce]] rfl (by (try simp only [List.map_toArray, List.map_cons, List.map_nil]); first | done | rfl) ?_; refine (changeforgeref7_Trace.calls Ae ce e.f0 _ (Kd.C_below HRE.out (below_step HA.out HB.out)) HCE.out OT1.out OT2.out).mono ?_; rintro e4 w4 ⟨rfl, hb⟩; refine ⟨_, rfl, ?_⟩; rw [HT.out]; have n0_ := Aside0.mk (below_step HB.out hb); have n5_ := Aside0.mk (blk_below BK5.out hb); have n11_ := Aside0.mk (blk_below BK11.out hb); have n13_ := Aside0.mk (blk_below BK13.out hb); have n14_ := Aside0.mk (blk_below BK14.out hb); clear HB; have HB := n0_; clear n0_ hb; clear BK5; have BK5 := n5_; clear n5_; clear BK11; have BK11 := n11_; clear n11_; clear BK13; have BK13 := n13_; clear n13_; clear BK14; have BK14 := n14_; clear n14_; (try clear x5_0); have x5_0 := (blk_cell BK5.out 0).trans rfl; (try clear x11_0); have x11_0 := (blk_cell BK11.out 0).trans rfl; (try clear x11_1); have x11_1 := (blk_cell BK11.out 1).trans rfl; (try clear x13_0); have x13_0 := (blk_cell BK13.out 0).trans rfl; (try clear x13_1); have x13_1 := (blk_cell BK13.out 1).trans rfl; (try clear x14_0); have x14_0 := (blk_cell BK14.out 0).trans rfl; (try clear x14_1); have x14_1 := (blk_cell BK14.out 1).trans rfl) | ((with_reducible refine gate_dst (N := 18) rfl ?_); refine box_event ?hg (N := 18) ?hd (cs := pc []) (t := 51) ?hr ?_; (case hd => rfl); (case hg => rfl); (case hr => first | kernel_rfl | (go_simp; done) | (go_simp; rfl)); intro g18 hg wn18 hbox hb; have GE18 : Aside0 (wk.heap.size ≤ g18) := Aside0.mk (by rw [hg]; exact HB.out.size); have NE18_5 : Aside0 (g18 ≠ g5) := Aside0.mk (by rw [hg]; exact Nat.ne_of_gt (blk_lt BK5.out)); have NE18_11 : Aside0 (g18 ≠ g11) := Aside0.mk (by rw [hg]; exact Nat.ne_of_gt (blk_lt BK11.out)); have NE18_13 : Aside0 (g18 ≠ g13) := Aside0.mk (by rw [hg]; exact Nat.ne_of_gt (blk_lt BK13.out)); have NE18_14 : Aside0 (g18 ≠ g14) := Aside0.mk (by rw [hg]; exact Nat.ne_of_gt (blk_lt BK14.out)); have n5_ := Aside0.mk (blk_below BK5.out hb); have n11_ := Aside0.mk (blk_below BK11.out hb); have n13_ := Aside0.mk (blk_below BK13.out hb); have n14_ := Aside0.mk (blk_below BK14.out hb); have n0_ := Aside0.mk (below_step HB.out hb); have BK18 := Aside0.mk hbox; clear BK5; have BK5 := n5_; clear n5_; clear BK11; have BK11 := n11_; clear n11_; clear BK13; have BK13 := n13_; clear n13_; clear BK14; have BK14 := n14_; clear n14_; clear HB; have HB := n0_; clear n0_ hbox hb hg) | ((with_reducible refine gate_dst (N := 19) rfl ?_); refine box_event ?hg (N := 19) ?hd (cs := kc []) (t := 52) ?hr ?_; (case hd => rfl); (case hg => rfl); (case hr => first | kernel_rfl | (go_simp; done) | (go_simp; rfl)); intro g19 hg wn19 hbox hb; have GE19 : Aside0 (wk.heap.size ≤ g19) := Aside0.mk (by rw [hg]; exact HB.out.size); have NE19_5 : Aside0 (g19 ≠ g5) := Aside0.mk (by rw [hg]; exact Nat.ne_of_gt (blk_lt BK5.out)); have NE19_11 : Aside0 (g19 ≠ g11) := Aside0.mk (by rw [hg]; exact Nat.ne_of_gt (blk_lt BK11.out)); have NE19_13 : Aside0 (g19 ≠ g13) := Aside0.mk (by rw [hg]; exact Nat.ne_of_gt (blk_lt BK13.out)); have NE19_14 : Aside0 (g19 ≠ g14) := Aside0.mk (by rw [hg]; exact Nat.ne_of_gt (blk_lt BK14.out)); have NE19_18 : Aside0 (g19 ≠ g18) := Aside0.mk (by rw [hg]; exact Nat.ne_of_gt (blk_lt BK18.out)); have n5_ := Aside0.mk (blk_below BK5.out hb); have n11_ := Aside0.mk (blk_below BK11.out hb); have n13_ := Aside0.mk (blk_below BK13.out hb); have n14_ := Aside0.mk (blk_below BK14.out hb); have n18_ := Aside0.mk (blk_below BK18.out hb); have n0_ := Aside0.mk (below_step HB.out hb); have BK19 := Aside0.mk hbox; clear BK5; have BK5 := n5_; clear n5_; clear BK11; have BK11 := n11_; clear n11_; clear BK13; have BK13 := n13_; clear n13_; clear BK14; have BK14 := n14_; clear n14_; clear BK18; have BK18 := n18_; clear n18_; clear HB; have HB := n0_; clear n0_ hbox hb hg) | ((with_reducible refine gate_storeV (ty := 51) (x := .tmp 18) (y := .tmp 93) rfl ?_); refine store_eventV rfl 51 (.tmp 18) (.tmp 93) rfl g18 (pc T) rfl rfl 51 _ BK18.out (by rw [pc_size HLET.out]; kernel_rfl) (by rw [pc_size (show ([] : List (Int × Bool)).length ≤ 130 from by decide), pc_size HLET.out]) (pc_one T) ?_; intro ws18_93 hn ho hb; have n5_ := Aside0.mk ((ho _ (Ne.symm NE18_5.out)).trans BK5.out); have n11_ := Aside0.mk ((ho _ (Ne.symm NE18_11.out)).trans BK11.out); have n13_ := Aside0.mk ((ho _ (Ne.symm NE18_13.out)).trans BK13.out); have n14_ := Aside0.mk ((ho _ (Ne.symm NE18_14.out)).trans BK14.out); have n19_ := Aside0.mk ((ho _ (NE19_18.out)).trans BK19.out); have n0_ := Aside0.mk (hb _ _ GE18.out HB.out); have nn_ := Aside0.mk hn; clear BK5; have BK5 := n5_; clear n5_; clear BK11; have BK11 := n11_; clear n11_; clear BK13; have BK13 := n13_; clear n13_; clear BK14; have BK14 := n14_; clear n14_; clear BK19; have BK19 := n19_; clear n19_; clear HB BK18; have HB := n0_; have BK18 := nn_; clear n0_ nn_ hn ho hb; (try clear x5_0); have x5_0 := (blk_cell BK5.out 0).trans rfl; (try clear x11_0); have x11_0 := (blk_cell BK11.out 0).trans rfl; (try clear x11_1); have x11_1 := (blk_cell BK11.out 1).trans rfl; (try clear x13_0); have x13_0 := (blk_cell BK13.out 0).trans rfl; (try clear x13_1); have x13_1 := (blk_cell BK13.out 1).trans rfl; (try clear x14_0); have x14_0 := (blk_cell BK14.out 0).trans rfl; (try clear x14_1); have x14_1 := (blk_cell BK14.out 1).trans rfl) | ((with_reducible refine gate_storeV (ty := 52) (x := .tmp 19) (y := .tmp 94) rfl ?_); refine store_eventV rfl 52 (.tmp 19) (.tmp 94) rfl g19 (kc T) rfl rfl 52 _ BK19.out (by rw [kc_size HLET.out]; kernel_rfl) (by rw [kc_size (show ([] : List (Int × Bool)).length ≤ 130 from by decide), kc_size HLET.out]) (kc_one T) ?_; intro ws19_94 hn ho hb; have n5_ := Aside0.mk ((ho _ (Ne.symm NE19_5.out)).trans BK5.out); have n11_ := Aside0.mk ((ho _ (Ne.symm NE19_11.out)).trans BK11.out); have n13_ := Aside0.mk ((ho _ (Ne.symm NE19_13.out)).trans BK13.out); have n14_ := Aside0.mk ((ho _ (Ne.symm NE19_14.out)).trans BK14.out); have n18_ := Aside0.mk ((ho _ (Ne.symm NE19_18.out)).trans BK18.out); have n0_ := Aside0.mk (hb _ _ GE19.out HB.out); have nn_ := Aside0.mk hn; clear BK5; have BK5 := n5_; clear n5_; clear BK11; have BK11 := n11_; clear n11_; clear BK13; have BK13 := n13_; clear n13_; clear BK14; have BK14 := n14_; clear n14_; clear BK18; have BK18 := n18_; clear n18_; clear HB BK19; have HB := n0_; have BK19 := nn_; clear n0_ nn_ hn ho hb; (try clear x5_0); have x5_0 := (blk_cell BK5.out 0).trans rfl; (try clear x11_0); have x11_0 := (blk_cell BK11.out 0).trans rfl; (try clear x11_1); have x11_1 := (blk_cell BK11.out 1).trans rfl; (try clear x13_0); have x13_0 := (blk_cell BK13.out 0).trans rfl; (try clear x13_1); have x13_1 := (blk_cell BK13.out 1).trans rfl; (try clear x14_0); have x14_0 := (blk_cell BK14.out 0).trans rfl; (try clear x14_1); have x14_1 := (blk_cell BK14.out 1).trans rfl; have p18 := (blk_cell BK18.out x.toNat).trans (pc_at HLT.out hln); rw [xt_] at p18; have p19 := (blk_cell BK19.out x.toNat).trans (kc_at HLT.out hln); rw [kt_] at p19) | fail)
                            go_meet
                            have e_ := HX2.out
                            obtain ⟨e1, e2⟩ := Prod.mk.inj e_
                            exact ⟨by first | rfl | rw [e1], by first | rfl | rw [e2], BK5, BK11, BK13, BK14, HB⟩
                          | true =>
                            rw [if_pos rfl] at hx2
                            have HX2 := Aside0.mk hx2
                            clear hx2
                            go_wp2_with (first | ((with_reducible refine gate_callee (f := 28) rfl ?_); refine goesL_ (some 92) rfl rfl Try.func28 (by kernel_rfl) rfl #[.agg #[.slice Ae e.f0.length ce]] rfl (by (try simp only [List.map_toArray, List.map_cons, List.map_nil]); first | done | rfl) ?_; refine (changeforgeref7_Trace.calls Ae ce e.f0 _ (Kd.C_below HRE.out (below_step HA.out HB.out)) HCE.out OT1.out OT2.out).mono ?_; rintro e4 w4 ⟨rfl, hb⟩; refine ⟨_, rfl, ?_⟩; rw [HT.out]; have n0_ := Aside0.mk (below_step HB.out hb); have n5_ := Aside0.mk (blk_below BK5.out hb); have n11_ := Aside0.mk (blk_below BK11.out hb); have n13_ := Aside0.mk (blk_below BK13.out hb); have n14_ := Aside0.mk (blk_below BK14.out hb); clear HB; have HB := n0_; clear n0_ hb; clear BK5; have BK5 := n5_; clear n5_; clear BK11; have BK11 := n11_; clear n11_; clear BK13; have BK13 := n13_; clear n13_; clear BK14; have BK14 := n14_; clear n14_; (try clear x5_0); have x5_0 := (blk_cell BK5.out 0).trans rfl; (try clear x11_0); have x11_0 := (blk_cell BK11.out 0).trans rfl; (try clear x11_1); have x11_1 := (blk_cell BK11.out 1).trans rfl; (try clear x13_0); have x13_0 := (blk_cell BK13.out 0).trans rfl; (try clear x13_1); have x13_1 := (blk_cell BK13.out 1).trans rfl; (try clear x14_0); have x14_0 := (blk_cell BK14.out 0).trans rfl; (try clear x14_1); have x14_1 := (blk_cell BK14.out 1).trans rfl) | ((with_reducible refine gate_dst (N := 18) rfl ?_); refine box_event ?hg (N := 18) ?hd (cs := pc []) (t := 51) ?hr ?_; (case hd => rfl); (case hg => rfl); (case hr => first | kernel_rfl | (go_simp; done) | (go_simp; rfl)); intro g18 hg wn18 hbox hb; have GE18 : Aside0 (wk.heap.size ≤ g18) := Aside0.mk (by rw [hg]; exact HB.out.size); have NE18_5 : Aside0 (g18 ≠ g5) := Aside0.mk (by rw [hg]; exact Nat.ne_of_gt (blk_lt BK5.out)); have NE18_11 : Aside0 (g18 ≠ g11) := Aside0.mk (by rw [hg]; exact Nat.ne_of_gt (blk_lt BK11.out)); have NE18_13 : Aside0 (g18 ≠ g13) := Aside0.mk (by rw [hg]; exact Nat.ne_of_gt (blk_lt BK13.out)); have NE18_14 : Aside0 (g18 ≠ g14) := Aside0.mk (by rw [hg]; exact Nat.ne_of_gt (blk_lt BK14.out)); have n5_ := Aside0.mk (blk_below BK5.out hb); have n11_ := Aside0.mk (blk_below BK11.out hb); have n13_ := Aside0.mk (blk_below BK13.out hb); have n14_ := Aside0.mk (blk_below BK14.out hb); have n0_ := Aside0.mk (below_step HB.out hb); have BK18 := Aside0.mk hbox; clear BK5; have BK5 := n5_; clear n5_; clear BK11; have BK11 := n11_; clear n11_; clear BK13; have BK13 := n13_; clear n13_; clear BK14; have BK14 := n14_; clear n14_; clear HB; have HB := n0_; clear n0_ hbox hb hg) | ((with_reducible refine gate_dst (N := 19) rfl ?_); refine box_event ?hg (N := 19) ?hd (cs := kc []) (t := 52) ?hr ?_; (case hd => rfl); (case hg => rfl); (case hr => first | kernel_rfl | (go_simp; done) | (go_simp; rfl)); intro g19 hg wn19 hbox hb; have GE19 : Aside0 (wk.heap.size ≤ g19) := Aside0.mk (by rw [hg]; exact HB.out.size); have NE19_5 : Aside0 (g19 ≠ g5) := Aside0.mk (by rw [hg]; exact Nat.ne_of_gt (blk_lt BK5.out)); have NE19_11 : Aside0 (g19 ≠ g11) := Aside0.mk (by rw [hg]; exact Nat.ne_of_gt (blk_lt BK11.out)); have NE19_13 : Aside0 (g19 ≠ g13) := Aside0.mk (by rw [hg]; exact Nat.ne_of_gt (blk_lt BK13.out)); have NE19_14 : Aside0 (g19 ≠ g14) := Aside0.mk (by rw [hg]; exact Nat.ne_of_gt (blk_lt BK14.out)); have NE19_18 : Aside0 (g19 ≠ g18) := Aside0.mk (by rw [hg]; exact Nat.ne_of_gt (blk_lt BK18.out)); have n5_ := Aside0.mk (blk_below BK5.out hb); have n11_ := Aside0.mk (blk_below BK11.out hb); have n13_ := Aside0.mk (blk_below BK13.out hb); have n14_ := Aside0.mk (blk_below BK14.out hb); have n18_ := Aside0.mk (blk_below BK18.out hb); have n0_ := Aside0.mk (below_step HB.out hb); have BK19 := Aside0.mk hbox; clear BK5; have BK5 := n5_; clear n5_; clear BK11; have BK11 := n11_; clear n11_; clear BK13; have BK13 := n13_; clear n13_; clear BK14; have BK14 := n14_; clear n14_; clear BK18; have BK18 := n18_; clear n18_; clear HB; have HB := n0_; clear n0_ hbox hb hg) | ((with_reducible refine gate_storeV (ty := 51) (x := .tmp 18) (y := .tmp 93) rfl ?_); refine store_eventV rfl 51 (.tmp 18) (.tmp 93) rfl g18 (pc T) rfl rfl 51 _ BK18.out (by rw [pc_size HLET.out]; kernel_rfl) (by rw [pc_size (show ([] : List (Int × Bool)).length ≤ 130 from by decide), pc_size HLET.out]) (pc_one T) ?_; intro ws18_93 hn ho hb; have n5_ := Aside0.mk ((ho _ (Ne.symm NE18_5.out)).trans BK5.out); have n11_ := Aside0.mk ((ho _ (Ne.symm NE18_11.out)).trans BK11.out); have n13_ := Aside0.mk ((ho _ (Ne.symm NE18_13.out)).trans BK13.out); have n14_ := Aside0.mk ((ho _ (Ne.symm NE18_14.out)).trans BK14.out); have n19_ := Aside0.mk ((ho _ (NE19_18.out)).trans BK19.out); have n0_ := Aside0.mk (hb _ _ GE18.out HB.out); have nn_ := Aside0.mk hn; clear BK5; have BK5 := n5_; clear n5_; clear BK11; have BK11 := n11_; clear n11_; clear BK13; have BK13 := n13_; clear n13_; clear BK14; have BK14 := n14_; clear n14_; clear BK19; have BK19 := n19_; clear n19_; clear HB BK18; have HB := n0_; have BK18 := nn_; clear n0_ nn_ hn ho hb; (try clear x5_0); have x5_0 := (blk_cell BK5.out 0).trans rfl; (try clear x11_0); have x11_0 := (blk_cell BK11.out 0).trans rfl; (try clear x11_1); have x11_1 := (blk_cell BK11.out 1).trans rfl; (try clear x13_0); have x13_0 := (blk_cell BK13.out 0).trans rfl; (try clear x13_1); have x13_1 := (blk_cell BK13.out 1).trans rfl; (try clear x14_0); have x14_0 := (blk_cell BK14.out 0).trans rfl; (try clear x14_1); have x14_1 := (blk_cell BK14.out 1).trans rfl) | ((with_reducible refine gate_storeV (ty := 52) (x := .tmp 19) (y := .tmp 94) rfl ?_); refine store_eventV rfl 52 (.tmp 19) (.tmp 94) rfl g19 (kc T) rfl rfl 52 _ BK19.out (by rw [kc_size HLET.out]; kernel_rfl) (by rw [kc_size (show ([] : List (Int × Bool)).length ≤ 130 from by decide), kc_size HLET.out]) (kc_one T) ?_; intro ws19_94 hn ho hb; have n5_ := Aside0.mk ((ho _ (Ne.symm NE19_5.out)).trans BK5.out); have n11_ := Aside0.mk ((ho _ (Ne.symm NE19_11.out)).trans BK11.out); have n13_ := Aside0.mk ((ho _ (Ne.symm NE19_13.out)).trans BK13.out); have n14_ := Aside0.mk ((ho _ (Ne.symm NE19_14.out)).trans BK14.out); have n18_ := Aside0.mk ((ho _ (Ne.symm NE19_18.out)).trans BK18.out); have n0_ := Aside0.mk (hb _ _ GE19.out HB.out); have nn_ := Aside0.mk hn; clear BK5; have BK5 := n5_; clear n5_; clear BK11; have BK11 := n11_; clear n11_; clear BK13; have BK13 := n13_; clear n13_; clear BK14; have BK14 := n14_; clear n14_; clear BK18; have BK18 := n18_; clear n18_; clear HB BK19; have HB := n0_; have BK19 := nn_; clear n0_ nn_ hn ho hb; (try clear x5_0); have x5_0 := (blk_cell BK5.out 0).trans rfl; (try clear x11_0); have x11_0 := (blk_cell BK11.out 0).trans rfl; (try clear x11_1); have x11_1 := (blk_cell BK11.out 1).trans rfl; (try clear x13_0); have x13_0 := (blk_cell BK13.out 0).trans rfl; (try clear x13_1); have x13_1 := (blk_cell BK13.out 1).trans rfl; (try clear x14_0); have x14_0 := (blk_cell BK14.out 0).trans rfl; (try clear x14_1); have x14_1 := (blk_cell BK14.out 1).trans rfl; have p18 := (blk_cell BK18.out x.toNat).trans (pc_at HLT.out hln); rw [xt_] at p18; have p19 := (blk_cell BK19.out x.toNat).trans (kc_at HLT.out hln); rw [kt_] at p19) | fail)
                            have hkz := HKZ.out
                            go_roundg kz
                            case measure => omega
                            case rel => exact ⟨done ++ [e], t, pl, rfl, by first | exact congrArg _ hw1.out | (rw [List.length_append, List.length_singleton]; rfl), HK1, ⟨by rw [HL.out, List.append_assoc]; rfl⟩, ⟨fun _ => ⟨HGE.out, by rw [List.length_append, List.length_singleton]; exact HX2.out⟩⟩, ⟨fun e => absurd hz e⟩, BK5, BK11, BK13, BK14, HB⟩
                        · rw [if_neg hc] at hx2
                          cases hx2
                      · have hwd : decide (x < 120) = false := decide_eq_false hw
                        have e_ : (x, (done.length : Int)) = (u1, u2) := by unfold thW at hx1; rw [if_neg hw] at hx1; exact Option.some.inj hx1
                        obtain ⟨e1, e2⟩ := Prod.mk.inj e_
                        clear hx1 e_ x0 X1 X2
                        go_wp2_with fail
                        go_meet
                        exact ⟨by first | rfl | rw [e1], by first | rfl | rw [e2], BK5, BK11, BK13, BK14, HB⟩
                  · have z0 : (v1 == 0) = false := beq_eq_false_iff_ne.mpr hz
                    obtain ⟨e1, e2⟩ := X2.out hz
                    clear X1 X2
                    go_wp2_with fail
                    go_meet
                    exact ⟨by first | rfl | rw [e1], by first | rfl | rw [e2], BK5, BK11, BK13, BK14, HB⟩
            case rest =>
              clear X3 HU BK5 BK11 BK13 BK14 HB x14_0 x14_1
              obtain ⟨rfl, rfl, BK5, BK11, BK13, BK14, HB⟩ := hcut
              (try clear x11_0)
              have x11_0 := (blk_cell BK11.out 0).trans rfl
              (try clear x11_1)
              have x11_1 := (blk_cell BK11.out 1).trans rfl
              (try clear x14_0)
              have x14_0 := (blk_cell BK14.out 0).trans rfl
              (try clear x14_1)
              have x14_1 := (blk_cell BK14.out 1).trans rfl
              go_upto_if 106 with fail
              go_cut [8] (fun v8 wx => v8 = .bool false ∧ Aside0 (wx.heap[g5]? = some (.cells #[.slice A1_0 l1_0.length c1_0] 45 (0, 0))) ∧ Aside0 (wx.heap[g13]? = some (.cells #[.int .i64 k2, .int .i64 k3] 25 (0, 0))) ∧ Aside0 (Below wk.heap.size wk wx))
              case first =>
                as_aux_lemma =>
                  by_cases hz : v1 = 0
                  · have ht := HTH.out
                    unfold thOk at ht
                    rw [if_pos hz] at ht
                    simp only [Bool.and_eq_true, Bool.or_eq_true, decide_eq_true_eq] at ht
                    obtain ⟨hm3, ht⟩ := ht
                    have z0 : (v1 != 0) = false := bne_eq_false_iff_eq.mpr hz
                    have z2 : (v1 == 0) = true := beq_iff_eq.mpr hz
                    replace hm3 : m3 = 0 := hm3
                    have z1 : (m3 != 0) = false := bne_eq_false_iff_eq.mpr hm3
                    have z3 : (m3 == 0) = true := beq_iff_eq.mpr hm3
                    clear HTH HM
                    by_cases hw : u1 < 120
                    · have hwd : decide (u1 < 120) = true := decide_eq_true hw
                      obtain ⟨e1, e2⟩ : m1 = u1 ∧ m2 = u2 := ht.elim (fun h_ => absurd hw (Int.not_lt.mpr h_)) (fun h_ => h_)
                      clear ht
                      subst e1
                      subst e2
                      have z4 : (m1 != m1) = false := bne_self_eq_false m1
                      have z5 : (m2 != m2) = false := bne_self_eq_false m2
                      go_wp2_with fail
                      go_meet
                      exact ⟨rfl, BK5, BK13, HB⟩
                    · have hwd : decide (u1 < 120) = false := decide_eq_false hw
                      go_wp2_with fail
                      go_meet
                      exact ⟨rfl, BK5, BK13, HB⟩
                  · have ht := HTH.out
                    unfold thOk at ht
                    rw [if_neg hz, decide_eq_true_eq] at ht
                    have z0 : (v1 == 0) = false := beq_eq_false_iff_ne.mpr hz
                    have z1 : (v1 != 0) = true := bne_iff_ne.mpr hz
                    have z2 : (v1 == v1) = true := beq_self_eq_true v1
                    have z3 : (v2 == v2) = true := beq_self_eq_true v2
                    simp only [Prod.mk.injEq] at ht
                    obtain ⟨e1, e2, e3, e4⟩ := ht
                    clear HTH HM
                    subst e1
                    subst e2
                    subst e3
                    subst e4
                    go_wp2_with fail
                    go_meet
                    exact ⟨rfl, BK5, BK13, HB⟩
              case rest =>
                clear BK5 BK11 BK13 BK14 HB x14_0 x14_1 x11_0 x11_1 HTH HM
                obtain ⟨rfl, BK5, BK13, HB⟩ := hcut
                (try clear x5_0)
                have x5_0 := (blk_cell BK5.out 0).trans rfl
                go_upto_region 27 with (first | ((with_reducible refine gate_callee (f := 27) rfl ?_); refine goesL_ (some 136) rfl rfl Try.func27 (by kernel_rfl) rfl #[.agg #[.slice A1_0 l1_0.length c1_0]] rfl (by (try simp only [List.map_toArray, List.map_cons, List.map_nil]); first | done | rfl) ?_; refine (textpatch_Validate.calls k A1_0 c1_0 l1_0 _ _ _ (Kd.C_below HR1.out (below_step HA.out HB.out)) HC1.out HY.out).mono ?_; rintro e4 w4 ⟨rfl, hb⟩; refine ⟨_, rfl, ?_⟩; have n0_ := Aside0.mk (below_step HB.out hb); have n5_ := Aside0.mk (blk_below BK5.out hb); have n13_ := Aside0.mk (blk_below BK13.out hb); clear HB; have HB := n0_; clear n0_ hb; clear BK5; have BK5 := n5_; clear n5_; clear BK13; have BK13 := n13_; clear n13_; (try clear x5_0); have x5_0 := (blk_cell BK5.out 0).trans rfl; (try clear x13_0); have x13_0 := (blk_cell BK13.out 0).trans rfl; (try clear x13_1); have x13_1 := (blk_cell BK13.out 1).trans rfl) | ((with_reducible refine gate_dst (N := 20) rfl ?_); refine box_event ?hg (N := 20) ?hd (cs := #[.int .i64 0, .int .i64 0]) (t := 25) ?hr ?_; (case hd => rfl); (case hg => rfl); (case hr => first | kernel_rfl | (go_simp; done) | (go_simp; rfl)); intro g20 hg wn20 hbox hb; have GE20 : Aside0 (wk.heap.size ≤ g20) := Aside0.mk (by rw [hg]; exact HB.out.size); have NE20_5 : Aside0 (g20 ≠ g5) := Aside0.mk (by rw [hg]; exact Nat.ne_of_gt (blk_lt BK5.out)); have NE20_13 : Aside0 (g20 ≠ g13) := Aside0.mk (by rw [hg]; exact Nat.ne_of_gt (blk_lt BK13.out)); have n5_ := Aside0.mk (blk_below BK5.out hb); have n13_ := Aside0.mk (blk_below BK13.out hb); have n0_ := Aside0.mk (below_step HB.out hb); have BK20 := Aside0.mk hbox; clear BK5; have BK5 := n5_; clear n5_; clear BK13; have BK13 := n13_; clear n13_; clear HB; have HB := n0_; clear n0_ hbox hb hg) | ((with_reducible refine gate_storeV (ty := 25) (x := .tmp 20) (y := .tmp 136) rfl ?_); refine store_eventV rfl 25 (.tmp 20) (.tmp 136) rfl g20 _ rfl rfl 25 _ BK20.out (by kernel_rfl) (rfl) (by simp [Value.oneCell']) ?_; intro ws20_136 hn ho hb; have n5_ := Aside0.mk ((ho _ (Ne.symm NE20_5.out)).trans BK5.out); have n13_ := Aside0.mk ((ho _ (Ne.symm NE20_13.out)).trans BK13.out); have n0_ := Aside0.mk (hb _ _ GE20.out HB.out); have nn_ := Aside0.mk hn; clear BK5; have BK5 := n5_; clear n5_; clear BK13; have BK13 := n13_; clear n13_; clear HB BK20; have HB := n0_; have BK20 := nn_; clear n0_ nn_ hn ho hb; (try clear x5_0); have x5_0 := (blk_cell BK5.out 0).trans rfl; (try clear x13_0); have x13_0 := (blk_cell BK13.out 0).trans rfl; (try clear x13_1); have x13_1 := (blk_cell BK13.out 1).trans rfl; (try clear x20_0); have x20_0 := (blk_cell BK20.out 0).trans rfl; (try clear x20_1); have x20_1 := (blk_cell BK20.out 1).trans rfl) | fail)
                simp only [Act.put, List.setIfInBounds_toArray, List.set_cons_zero, List.set_cons_succ]
                go_cut [147] (fun v147 wx => v147 = .bool (decide (y1 = 0 ∧ (a3 < 0 ∨ a3 > 120))) ∧ Aside0 (wx.heap[g5]? = some (.cells #[.slice A1_0 l1_0.length c1_0] 45 (0, 0))) ∧ Aside0 (wx.heap[g13]? = some (.cells #[.int .i64 k2, .int .i64 k3] 25 (0, 0))) ∧ Aside0 (wx.heap[g20]? = some (.cells #[.int .i64 y1, .int .i64 y2] 25 (0, 0))) ∧ Aside0 (Below wk.heap.size wk wx))
                case first =>
                  as_aux_lemma =>
                    by_cases hz : y1 = 0
                    · have z0 : (y1 == 0) = true := beq_iff_eq.mpr hz
                      by_cases hn : a3 < 0
                      · have hnd : decide (a3 < 0) = true := decide_eq_true hn
                        have e_ : decide (y1 = 0 ∧ (a3 < 0 ∨ a3 > 120)) = true := decide_eq_true ⟨hz, .inl hn⟩
                        have E_ := Aside0.mk e_
                        clear HY e_
                        go_wp2_with fail
                        go_meet
                        exact ⟨by first | rfl | (rw [E_.out]), BK5, BK13, BK20, HB⟩
                      · have hnd : decide (a3 < 0) = false := decide_eq_false hn
                        by_cases hm : a3 > 120
                        · have hmd : decide (a3 > 120) = true := decide_eq_true hm
                          have hme : decide (120 < a3) = true := decide_eq_true hm
                          have e_ : decide (y1 = 0 ∧ (a3 < 0 ∨ a3 > 120)) = true := decide_eq_true ⟨hz, .inr hm⟩
                          have E_ := Aside0.mk e_
                          clear HY e_
                          go_wp2_with fail
                          go_meet
                          exact ⟨by first | rfl | (rw [E_.out]), BK5, BK13, BK20, HB⟩
                        · have hmd : decide (a3 > 120) = false := decide_eq_false hm
                          have hme : decide (120 < a3) = false := decide_eq_false hm
                          have e_ : decide (y1 = 0 ∧ (a3 < 0 ∨ a3 > 120)) = false := decide_eq_false (fun h_ => h_.2.elim hn hm)
                          have E_ := Aside0.mk e_
                          clear HY e_
                          go_wp2_with fail
                          go_meet
                          exact ⟨by first | rfl | (rw [E_.out]), BK5, BK13, BK20, HB⟩
                    · have z0 : (y1 == 0) = false := beq_eq_false_iff_ne.mpr hz
                      have e_ : decide (y1 = 0 ∧ (a3 < 0 ∨ a3 > 120)) = false := decide_eq_false (fun h_ => hz h_.1)
                      have E_ := Aside0.mk e_
                      clear HY e_
                      go_wp2_with fail
                      go_meet
                      exact ⟨by first | rfl | (rw [E_.out]), BK5, BK13, BK20, HB⟩
                case rest =>
                  clear BK5 BK13 BK20 HB x5_0
                  (try clear x20_0)
                  (try clear x20_1)
                  obtain ⟨rfl, BK5, BK13, BK20, HB⟩ := hcut
                  obtain ⟨⟨W1, W2⟩, hW⟩ : ∃ W, kpW l1_0 a3 (y1, y2) = W := ⟨_, rfl⟩
                  rw [hW] at HKW
                  have HW := Aside0.mk hW
                  have HMX := Aside0.mk HR1.out.2.1
                  clear hW
                  go_upto_if 147 with fail
                  go_cut [8] (fun v8 wx => ∃ x1 x2 : Int, v8 = .bool false ∧ Aside0 (x1 = 0 → kpF l1_0 a3 0 = (W1, W2)) ∧ Aside0 (x1 ≠ 0 → (x1, x2) = (W1, W2)) ∧ Aside0 (wx.heap[g5]? = some (.cells #[.slice A1_0 l1_0.length c1_0] 45 (0, 0))) ∧ Aside0 (wx.heap[g13]? = some (.cells #[.int .i64 k2, .int .i64 k3] 25 (0, 0))) ∧ Aside0 (wx.heap[g20]? = some (.cells #[.int .i64 x1, .int .i64 x2] 25 (0, 0))) ∧ Aside0 (Below wk.heap.size wk wx))
                  case first =>
                    by_cases hb : y1 = 0 ∧ (a3 < 0 ∨ a3 > 120)
                    · have e_ : decide (y1 = 0 ∧ (a3 < 0 ∨ a3 > 120)) = true := decide_eq_true hb
                      rw [e_]
                      have e1 : (3, -2) = (W1, W2) := by have h_ := HW.out; unfold kpW at h_; rw [if_pos hb.1, if_pos hb.2] at h_; exact h_
                      have E1 := Aside0.mk e1
                      clear hb e_ e1 HY HKW HW
                      go_wp2_with (first | ((with_reducible refine gate_callee (f := 19) rfl ?_); refine goesL_ (some 148) rfl rfl Try.func19 (by kernel_rfl) rfl #[.int .i64 3, .int .i64 (-2)] rfl (by (try simp only [List.map_toArray, List.map_cons, List.map_nil]); first | done | rfl) ?_; refine (changeforgeref7_Fault.calls 3 (-2) _ _ _ rfl).mono ?_; rintro e4 w4 ⟨rfl, hb⟩; refine ⟨_, rfl, ?_⟩; have n0_ := Aside0.mk (below_step HB.out hb); have n5_ := Aside0.mk (blk_below BK5.out hb); have n13_ := Aside0.mk (blk_below BK13.out hb); have n20_ := Aside0.mk (blk_below BK20.out hb); clear HB; have HB := n0_; clear n0_ hb; clear BK5; have BK5 := n5_; clear n5_; clear BK13; have BK13 := n13_; clear n13_; clear BK20; have BK20 := n20_; clear n20_; (try clear x5_0); have x5_0 := (blk_cell BK5.out 0).trans rfl; (try clear x13_0); have x13_0 := (blk_cell BK13.out 0).trans rfl; (try clear x13_1); have x13_1 := (blk_cell BK13.out 1).trans rfl; (try clear x20_0); have x20_0 := (blk_cell BK20.out 0).trans rfl; (try clear x20_1); have x20_1 := (blk_cell BK20.out 1).trans rfl) | ((with_reducible refine gate_storeV (ty := 25) (x := .tmp 20) (y := .tmp 148) rfl ?_); refine store_eventV rfl 25 (.tmp 20) (.tmp 148) rfl g20 _ rfl rfl 25 _ BK20.out (by kernel_rfl) (rfl) (by simp [Value.oneCell']) ?_; intro ws20_148 hn ho hb; have n5_ := Aside0.mk ((ho _ (Ne.symm NE20_5.out)).trans BK5.out); have n13_ := Aside0.mk ((ho _ (Ne.symm NE20_13.out)).trans BK13.out); have n0_ := Aside0.mk (hb _ _ GE20.out HB.out); have nn_ := Aside0.mk hn; clear BK5; have BK5 := n5_; clear n5_; clear BK13; have BK13 := n13_; clear n13_; clear HB BK20; have HB := n0_; have BK20 := nn_; clear n0_ nn_ hn ho hb; (try clear x5_0); have x5_0 := (blk_cell BK5.out 0).trans rfl; (try clear x13_0); have x13_0 := (blk_cell BK13.out 0).trans rfl; (try clear x13_1); have x13_1 := (blk_cell BK13.out 1).trans rfl; (try clear x20_0); have x20_0 := (blk_cell BK20.out 0).trans rfl; (try clear x20_1); have x20_1 := (blk_cell BK20.out 1).trans rfl) | fail)
                      go_meet
                      exact ⟨3, -2, rfl, ⟨fun e => absurd e (by decide)⟩, ⟨fun _ => E1.out⟩, BK5, BK13, BK20, HB⟩
                    · have e_ : decide (y1 = 0 ∧ (a3 < 0 ∨ a3 > 120)) = false := decide_eq_false hb
                      rw [e_]
                      clear e_ HY HKW
                      go_wp2_with fail
                      go_meet
                      exact ⟨y1, y2, rfl, ⟨fun e => by have h_ := HW.out; unfold kpW at h_; rw [if_pos e, if_neg (fun h2 => hb ⟨e, h2⟩)] at h_; exact h_⟩, ⟨fun e => by have h_ := HW.out; unfold kpW at h_; rw [if_neg e] at h_; exact h_⟩, BK5, BK13, BK20, HB⟩
                  case rest =>
                    clear BK5 BK13 BK20 HB HW HY
                    obtain ⟨x1, x2, rfl, X1, X2, BK5, BK13, BK20, HB⟩ := hcut
                    go_upto_block 4 with fail
                    go_cut [21] (fun v21 wx => ∃ (i z2 : Int), v21 = .int .i64 i ∧ Aside0 (W1 ≠ 0 → z2 = W2) ∧ Aside0 (wx.heap[g5]? = some (.cells #[.slice A1_0 l1_0.length c1_0] 45 (0, 0))) ∧ Aside0 (wx.heap[g13]? = some (.cells #[.int .i64 k2, .int .i64 k3] 25 (0, 0))) ∧ Aside0 (wx.heap[g20]? = some (.cells #[.int .i64 W1, .int .i64 z2] 25 (0, 0))) ∧ Aside0 (Below wk.heap.size wk wx))
                    case first =>
                      as_aux_lemma =>
                        go_wp2_with fail
                        go_loopg [21] l1_0.length (fun kq v21 w' => ∃ (done rest : List S57) (x1 x2 : Int), v21 = .int .i64 (done.length : Int) ∧ Aside0 (rest.length = kq) ∧ Aside0 (l1_0 = done ++ rest) ∧ Aside0 (x1 = 0 → kpF rest a3 done.length = (W1, W2)) ∧ Aside0 (x1 ≠ 0 → (x1, x2) = (W1, W2)) ∧ Aside0 (w'.heap[g5]? = some (.cells #[.slice A1_0 l1_0.length c1_0] 45 (0, 0))) ∧ Aside0 (w'.heap[g13]? = some (.cells #[.int .i64 k2, .int .i64 k3] 25 (0, 0))) ∧ Aside0 (w'.heap[g20]? = some (.cells #[.int .i64 x1, .int .i64 x2] 25 (0, 0))) ∧ Aside0 (Below wk.heap.size wk w'))
                        case atStart => exact ⟨[], l1_0, x1, x2, rfl, ⟨rfl⟩, ⟨rfl⟩, X1, X2, BK5, BK13, BK20, HB⟩
                        case round =>
                          clear X1 X2 BK5 BK13 BK20 HB HKW
                          obtain ⟨done, rest, x1, x2, rfl, HK, HL, X1, X2, BK5, BK13, BK20, HB⟩ := hrel
                          (try clear x5_0)
                          have x5_0 := (blk_cell BK5.out 0).trans rfl
                          (try clear x20_0)
                          have x20_0 := (blk_cell BK20.out 0).trans rfl
                          (try clear x20_1)
                          have x20_1 := (blk_cell BK20.out 1).trans rfl
                          by_cases hz : x1 = 0
                          · have hx1 := X1.out hz
                            have z0 : (x1 == 0) = true := beq_iff_eq.mpr hz
                            cases rest with
                            | nil =>
                              have hx : decide ((done.length : Int) < (l1_0.length : Int)) = false := decide_eq_false (by rw [HL.out]; simp)
                              have hxn : ¬ done.length < l1_0.length := by rw [HL.out]; simp
                              have e_ : (0, 0) = (W1, W2) := hx1
                              obtain ⟨e1, e2⟩ := Prod.mk.inj e_
                              have E1 := Aside0.mk e1
                              have HZ := Aside0.mk hz
                              clear hx1 e_ X1 X2 e1 e2 hz
                              go_wp2_with fail
                              go_meet
                              exact ⟨_, x2, rfl, ⟨fun e => absurd E1.out.symm e⟩, BK5, BK13, ⟨by rw [← E1.out, ← HZ.out]; exact BK20.out⟩, HB⟩
                            | cons h t =>
                              have hjl : done.length + (t.length + 1) = l1_0.length := by rw [HL.out, List.length_append, List.length_cons]
                              have hx : decide ((done.length : Int) < (l1_0.length : Int)) = true := decide_eq_true (by omega)
                              have hxn : done.length < l1_0.length := by omega
                              have hxp : (done.length : Int) < (l1_0.length : Int) := by omega
                              have hx0 : (0 : Int) ≤ (done.length : Int) := by omega
                              obtain ⟨kz, hkz⟩ : ∃ kz, gk = kz + 1 := ⟨t.length, by have := HK.out; rw [List.length_cons] at this; omega⟩
                              have HK1 : Aside0 (t.length = kz) := ⟨by have := HK.out; rw [List.length_cons] at this; omega⟩
                              have hw1 : Aside0 (wrap64 ((done.length : Int) + 1) = ((done ++ [h]).length : Int)) := ⟨by
                                rw [List.length_append, List.length_singleton]
                                have := HMX.out
                                unfold wrap64
                                omega⟩
                              have HKZ := Aside0.mk hkz
                              obtain ⟨ad, Ae, ce, Af, cf, hA, y0, yb, yc, hl1, hC1, hl2, hC2⟩ := at_T57 HR1.out (done.length : Int) hx0 hxp
                              have he : rd_T57 l1_0 (done.length : Int) = h := by rw [HL.out]; exact at_mid52 _ _ _
                              rw [he] at y0 yb
                              rw [Int.toNat_natCast] at y0 yb
                              have hbb := below_step HA.out HB.out
                              have yy0 := (Below.cell hbb (World.block_lt_of_cell? w _ y0)).trans y0
                              have yy1 := (Below.cell hbb (World.block_lt_of_cell? w _ yb)).trans yb
                              subst hA
                              have hx2 : (if wrap64 (h.f0 + (h.f1.length : Int)) > a3 then (19, (done.length : Int)) else kpF t a3 (done.length + 1)) = (W1, W2) := hx1
                              have HZ := Aside0.mk hz
                              clear y0 yb yc hl1 hC1 hl2 hC2 he hbb hkz hjl hx1 X1 X2 hz
                              by_cases hg : wrap64 (h.f0 + (h.f1.length : Int)) > a3
                              · have hgd : decide (wrap64 (h.f0 + (h.f1.length : Int)) > a3) = true := decide_eq_true hg
                                have hge : decide (a3 < wrap64 (h.f0 + (h.f1.length : Int))) = true := decide_eq_true hg
                                rw [if_pos hg] at hx2
                                have HX2 := Aside0.mk hx2
                                clear hx2
                                go_wp2_with fail
                                go_quiet (fail)
                                have mb_ := Aside0.mk (pw_below_drewN HB.out nq)
                                have m5_ := Aside0.mk (blk_drewN BK5.out nq)
                                have m13_ := Aside0.mk (blk_drewN BK13.out nq)
                                have m20_ := Aside0.mk (blk_drewN BK20.out nq)
                                clear HB BK5 BK13 BK20 x5_0 x20_0 x20_1 yy0 yy1
                                generalize wr.drewN nq = wz at mb_ m5_ m13_ m20_ ⊢
                                have HB := mb_
                                have BK5 := m5_
                                have BK13 := m13_
                                have BK20 := m20_
                                clear mb_ m5_ m13_ m20_
                                go_wp2_with (first | ((with_reducible refine gate_callee (f := 19) rfl ?_); refine goesL_ (some 178) rfl rfl Try.func19 (by kernel_rfl) rfl #[.int .i64 19, .int .i64 (done.length : Int)] rfl (by (try simp only [List.map_toArray, List.map_cons, List.map_nil]); first | done | rfl) ?_; refine (changeforgeref7_Fault.calls 19 (done.length : Int) _ _ _ rfl).mono ?_; rintro e4 w4 ⟨rfl, hb⟩; refine ⟨_, rfl, ?_⟩; have n0_ := Aside0.mk (below_step HB.out hb); have n5_ := Aside0.mk (blk_below BK5.out hb); have n13_ := Aside0.mk (blk_below BK13.out hb); have n20_ := Aside0.mk (blk_below BK20.out hb); clear HB; have HB := n0_; clear n0_ hb; clear BK5; have BK5 := n5_; clear n5_; clear BK13; have BK13 := n13_; clear n13_; clear BK20; have BK20 := n20_; clear n20_; (try clear x5_0); have x5_0 := (blk_cell BK5.out 0).trans rfl; (try clear x13_0); have x13_0 := (blk_cell BK13.out 0).trans rfl; (try clear x13_1); have x13_1 := (blk_cell BK13.out 1).trans rfl; (try clear x20_0); have x20_0 := (blk_cell BK20.out 0).trans rfl; (try clear x20_1); have x20_1 := (blk_cell BK20.out 1).trans rfl) | ((with_reducible refine gate_storeV (ty := 25) (x := .tmp 20) (y := .tmp 178) rfl ?_); refine store_eventV rfl 25 (.tmp 20) (.tmp 178) rfl g20 _ rfl rfl 25 _ BK20.out (by kernel_rfl) (rfl) (by simp [Value.oneCell']) ?_; intro ws20_178 hn ho hb; have n5_ := Aside0.mk ((ho _ (Ne.symm NE20_5.out)).trans BK5.out); have n13_ := Aside0.mk ((ho _ (Ne.symm NE20_13.out)).trans BK13.out); have n0_ := Aside0.mk (hb _ _ GE20.out HB.out); have nn_ := Aside0.mk hn; clear BK5; have BK5 := n5_; clear n5_; clear BK13; have BK13 := n13_; clear n13_; clear HB BK20; have HB := n0_; have BK20 := nn_; clear n0_ nn_ hn ho hb; (try clear x5_0); have x5_0 := (blk_cell BK5.out 0).trans rfl; (try clear x13_0); have x13_0 := (blk_cell BK13.out 0).trans rfl; (try clear x13_1); have x13_1 := (blk_cell BK13.out 1).trans rfl; (try clear x20_0); have x20_0 := (blk_cell BK20.out 0).trans rfl; (try clear x20_1); have x20_1 := (blk_cell BK20.out 1).trans rfl) | fail)
                                have hkz := HKZ.out
                                go_roundg kz
                                case measure => omega
                                case rel => exact ⟨done ++ [h], t, 19, (done.length : Int), by first | exact congrArg _ hw1.out | (rw [List.length_append, List.length_singleton]; rfl), HK1, ⟨by rw [HL.out, List.append_assoc]; rfl⟩, ⟨fun e => absurd e (by decide)⟩, ⟨fun _ => HX2.out⟩, BK5, BK13, BK20, HB⟩
                              · have hgd : decide (wrap64 (h.f0 + (h.f1.length : Int)) > a3) = false := decide_eq_false hg
                                have hge : decide (a3 < wrap64 (h.f0 + (h.f1.length : Int))) = false := decide_eq_false hg
                                rw [if_neg hg] at hx2
                                have HX2 := Aside0.mk hx2
                                clear hx2
                                go_wp2_with fail
                                go_quiet (fail)
                                have mb_ := Aside0.mk (pw_below_drewN HB.out nq)
                                have m5_ := Aside0.mk (blk_drewN BK5.out nq)
                                have m13_ := Aside0.mk (blk_drewN BK13.out nq)
                                have m20_ := Aside0.mk (blk_drewN BK20.out nq)
                                clear HB BK5 BK13 BK20 x5_0 x20_0 x20_1 yy0 yy1
                                generalize wr.drewN nq = wz at mb_ m5_ m13_ m20_ ⊢
                                have HB := mb_
                                have BK5 := m5_
                                have BK13 := m13_
                                have BK20 := m20_
                                clear mb_ m5_ m13_ m20_
                                go_wp2_with fail
                                have hkz := HKZ.out
                                go_roundg kz
                                case measure => omega
                                case rel => exact ⟨done ++ [h], t, x1, x2, by first | exact congrArg _ hw1.out | (rw [List.length_append, List.length_singleton]; rfl), HK1, ⟨by rw [HL.out, List.append_assoc]; rfl⟩, ⟨fun _ => by rw [List.length_append, List.length_singleton]; exact HX2.out⟩, ⟨fun e => absurd HZ.out e⟩, BK5, BK13, BK20, HB⟩
                          · have e_ := X2.out hz
                            obtain ⟨e1, e2⟩ := Prod.mk.inj e_
                            have z0 : (x1 == 0) = false := beq_eq_false_iff_ne.mpr hz
                            have z1 : (x1 != 0) = true := bne_iff_ne.mpr hz
                            have E1 := Aside0.mk e1
                            have E2 := Aside0.mk e2
                            clear e_ X1 X2 e1 e2
                            by_cases hn : done.length < l1_0.length
                            · have hx : decide ((done.length : Int) < (l1_0.length : Int)) = true := decide_eq_true (by omega)
                              have hx2 : (done.length : Int) < (l1_0.length : Int) := by omega
                              go_wp2_with fail
                              go_meet
                              exact ⟨_, x2, rfl, ⟨fun _ => E2.out⟩, BK5, BK13, ⟨by rw [← E1.out]; exact BK20.out⟩, HB⟩
                            · have hx : decide ((done.length : Int) < (l1_0.length : Int)) = false := decide_eq_false (by omega)
                              go_wp2_with fail
                              go_meet
                              exact ⟨_, x2, rfl, ⟨fun _ => E2.out⟩, BK5, BK13, ⟨by rw [← E1.out]; exact BK20.out⟩, HB⟩
                    case rest =>
                      clear X1 X2 BK5 BK13 BK20 HB
                      obtain ⟨i21, z2_, rfl, X2, BK5, BK13, BK20, HB⟩ := hcut
                      as_aux_lemma =>
                        (try clear x5_0)
                        have x5_0 := (blk_cell BK5.out 0).trans rfl
                        (try clear x13_0)
                        have x13_0 := (blk_cell BK13.out 0).trans rfl
                        (try clear x13_1)
                        have x13_1 := (blk_cell BK13.out 1).trans rfl
                        (try clear x20_0)
                        have x20_0 := (blk_cell BK20.out 0).trans rfl
                        (try clear x20_1)
                        have x20_1 := (blk_cell BK20.out 1).trans rfl
                        have hkw := HKW.out
                        unfold kpAll at hkw
                        by_cases hz : W1 = 0
                        · rw [if_pos hz] at hkw
                          simp only [Bool.and_eq_true, decide_eq_true_eq] at hkw
                          obtain ⟨⟨⟨⟨⟨hk2, hln⟩, ho1⟩, ho2⟩, hn120⟩, hok⟩ := hkw
                          have z0 : (W1 != 0) = false := bne_eq_false_iff_eq.mpr hz
                          have z1 : (W1 == 0) = true := beq_iff_eq.mpr hz
                          have z2 : (k2 != 0) = false := bne_eq_false_iff_eq.mpr hk2
                          have z3 : (k2 == 0) = true := beq_iff_eq.mpr hk2
                          have z4 : ((l.length : Int) != a3) = false := bne_eq_false_iff_eq.mpr hln
                          have z5 : ((l.length : Int) == a3) = true := beq_iff_eq.mpr hln
                          have OT1 := Aside0.mk ho1
                          have OT2 := Aside0.mk ho2
                          have HLN := Aside0.mk hln
                          have HN := Aside0.mk hn120
                          obtain ⟨T, hT⟩ : ∃ T, trL l1_0 0 0 = T := ⟨_, rfl⟩
                          have HLT : Aside0 (T.length = 130) := ⟨by have h_ := trL_len l1_0 0 0 OT1.out; rw [hT, Nat.zero_add] at h_; exact h_⟩
                          have HLET : Aside0 (T.length ≤ 130) := ⟨Nat.le_of_eq HLT.out⟩
                          unfold kpOk at hok
                          rw [hT] at hok
                          have HT := Aside0.mk hT
                          have HOK := Aside0.mk hok
                          clear hok hT ho1 ho2 hln hn120 HKW X2 HMX
                          go_wp2_with (first | ((with_reducible refine gate_callee (f := 28) rfl ?_); refine goesL_ (some 201) rfl rfl Try.func28 (by kernel_rfl) rfl #[.agg #[.slice A1_0 l1_0.length c1_0]] rfl (by (try simp only [List.map_toArray, List.map_cons, List.map_nil]); first | done | rfl) ?_; refine (changeforgeref7_Trace.calls A1_0 c1_0 l1_0 _ (Kd.C_below HR1.out (below_step HA.out HB.out)) HC1.out OT1.out OT2.out).mono ?_; rintro e4 w4 ⟨rfl, hb⟩; refine ⟨_, rfl, ?_⟩; rw [HT.out]; have n0_ := Aside0.mk (below_step HB.out hb); have n5_ := Aside0.mk (blk_below BK5.out hb); have n13_ := Aside0.mk (blk_below BK13.out hb); clear HB; have HB := n0_; clear n0_ hb; clear BK5; have BK5 := n5_; clear n5_; clear BK13; have BK13 := n13_; clear n13_; (try clear x5_0); have x5_0 := (blk_cell BK5.out 0).trans rfl; (try clear x13_0); have x13_0 := (blk_cell BK13.out 0).trans rfl; (try clear x13_1); have x13_1 := (blk_cell BK13.out 1).trans rfl) | ((with_reducible refine gate_dst (N := 22) rfl ?_); refine box_event ?hg (N := 22) ?hd (cs := pc []) (t := 51) ?hr ?_; (case hd => rfl); (case hg => rfl); (case hr => first | kernel_rfl | (go_simp; done) | (go_simp; rfl)); intro g22 hg wn22 hbox hb; have GE22 : Aside0 (wk.heap.size ≤ g22) := Aside0.mk (by rw [hg]; exact HB.out.size); have n0_ := Aside0.mk (below_step HB.out hb); have BK22 := Aside0.mk hbox; clear HB; have HB := n0_; clear n0_ hbox hb hg) | ((with_reducible refine gate_dst (N := 23) rfl ?_); refine box_event ?hg (N := 23) ?hd (cs := kc []) (t := 52) ?hr ?_; (case hd => rfl); (case hg => rfl); (case hr => first | kernel_rfl | (go_simp; done) | (go_simp; rfl)); intro g23 hg wn23 hbox hb; have GE23 : Aside0 (wk.heap.size ≤ g23) := Aside0.mk (by rw [hg]; exact HB.out.size); have NE23_22 : Aside0 (g23 ≠ g22) := Aside0.mk (by rw [hg]; exact Nat.ne_of_gt (blk_lt BK22.out)); have n22_ := Aside0.mk (blk_below BK22.out hb); have n0_ := Aside0.mk (below_step HB.out hb); have BK23 := Aside0.mk hbox; clear BK22; have BK22 := n22_; clear n22_; clear HB; have HB := n0_; clear n0_ hbox hb hg) | ((with_reducible refine gate_storeV (ty := 51) (x := .tmp 22) (y := .tmp 202) rfl ?_); refine store_eventV rfl 51 (.tmp 22) (.tmp 202) rfl g22 (pc T) rfl rfl 51 _ BK22.out (by rw [pc_size HLET.out]; kernel_rfl) (by rw [pc_size (show ([] : List (Int × Bool)).length ≤ 130 from by decide), pc_size HLET.out]) (pc_one T) ?_; intro ws22_202 hn ho hb; have n23_ := Aside0.mk ((ho _ (NE23_22.out)).trans BK23.out); have n0_ := Aside0.mk (hb _ _ GE22.out HB.out); have nn_ := Aside0.mk hn; clear BK23; have BK23 := n23_; clear n23_; clear HB BK22; have HB := n0_; have BK22 := nn_; clear n0_ nn_ hn ho hb; ) | ((with_reducible refine gate_storeV (ty := 52) (x := .tmp 23) (y := .tmp 203) rfl ?_); refine store_eventV rfl 52 (.tmp 23) (.tmp 203) rfl g23 (kc T) rfl rfl 52 _ BK23.out (by rw [kc_size HLET.out]; kernel_rfl) (by rw [kc_size (show ([] : List (Int × Bool)).length ≤ 130 from by decide), kc_size HLET.out]) (kc_one T) ?_; intro ws23_203 hn ho hb; have n22_ := Aside0.mk ((ho _ (Ne.symm NE23_22.out)).trans BK22.out); have n0_ := Aside0.mk (hb _ _ GE23.out HB.out); have nn_ := Aside0.mk hn; clear BK22; have BK22 := n22_; clear n22_; clear HB BK23; have HB := n0_; have BK23 := nn_; clear n0_ nn_ hn ho hb; ) | fail)
                          go_loopg [24] l.length (fun kq v24 w' => ∃ i : Nat, v24 = .int .i64 (i : Int) ∧ Aside0 (i + kq = l.length) ∧ Aside0 (w'.heap[g22]? = some (.cells (pc T) 51 (0, 0))) ∧ Aside0 (w'.heap[g23]? = some (.cells (kc T) 52 (0, 0))) ∧ Aside0 (Below wk.heap.size wk w'))
                          case atStart => exact ⟨0, rfl, ⟨Nat.zero_add _⟩, BK22, BK23, HB⟩
                          case round =>
                            clear BK22 BK23 HB
                            obtain ⟨i, rfl, HK, BK22, BK23, HB⟩ := hrel
                            by_cases hi : i < l.length
                            · have hx : decide ((i : Int) < a3) = true := decide_eq_true (by have := HLN.out; omega)
                              have hxp : (i : Int) < a3 := by have := HLN.out; omega
                              have hi130 : i < 130 := by have := HN.out; omega
                              have hj130 : (i : Int) < 130 := by omega
                              have hi0 : (0 : Int) ≤ (i : Int) := by omega
                              have hil : (i : Int) < (l.length : Int) := by omega
                              obtain ⟨ky, hky⟩ : ∃ ky, gk = ky + 1 := ⟨gk - 1, by have := HK.out; omega⟩
                              have HKY := Aside0.mk hky
                              have hw1 : wrap64 ((i : Int) + 1) = ((i + 1 : Nat) : Int) := by unfold wrap64; omega
                              have HW1 := Aside0.mk hw1
                              obtain ⟨ad, c_, hA, _, hK_, hc_⟩ := Kd.C_get HLC.out 0 (i : Int) hi0 hil
                              have hK2 : c_ = [Value.int .i64 (l.getD (i : Int).toNat 0)] := hK_
                              subst hK2
                              have y0 : wk.cell? (ad.add i) = some (.int .i64 (l.getD i 0)) := by
                                have h_ := hc_ 0 _ rfl
                                rw [Int.toNat_natCast] at h_
                                have e_ : i * (Kd.int .i64).sz + 0 = i := Nat.mul_one i
                                rw [e_] at h_
                                exact h_
                              have hchk := List.all_eq_true.1 HOK.out i (List.mem_range.2 (by have := HLN.out; omega))
                              rw [decide_eq_true_eq] at hchk
                              have yy0 := (Below.cell HB.out (World.block_lt_of_cell? wk _ y0)).trans y0
                              subst hA
                              have p22 := (blk_cell BK22.out i).trans (pc_at HLT.out hi130)
                              have p23 := (blk_cell BK23.out i).trans (kc_at HLT.out hi130)
                              obtain ⟨pl, xt_⟩ : ∃ q, (T.getD i (0, false)).1 = q := ⟨_, rfl⟩
                              obtain ⟨kk, kt_⟩ : ∃ q, (T.getD i (0, false)).2 = q := ⟨_, rfl⟩
                              rw [xt_] at p22 hchk
                              rw [kt_] at p23 hchk
                              obtain ⟨li, hli⟩ : ∃ q, l.getD i 0 = q := ⟨_, rfl⟩
                              rw [hli] at yy0 hchk
                              clear hc_ hK_ y0 hky hw1 xt_ kt_ hli
                              cases kk with
                              | true =>
                                rw [if_pos rfl] at hchk
                                subst hchk
                                have z6 : (li != li) = false := bne_self_eq_false li
                                have z7 : (li == li) = true := beq_self_eq_true li
                                go_wp2_with fail
                                go_quiet (fail)
                                go_wp2_with fail
                                have hky := HKY.out
                                go_roundg ky
                                case measure => omega
                                case rel => exact ⟨i + 1, by first | exact congrArg _ HW1.out | rfl, ⟨by have := HK.out; omega⟩, BK22, BK23, ⟨pw_below_drewN HB.out nq⟩⟩
                              | false =>
                                rw [if_neg (by decide)] at hchk
                                subst hchk
                                go_wp2_with fail
                                go_quiet (fail)
                                go_wp2_with fail
                                have hky := HKY.out
                                go_roundg ky
                                case measure => omega
                                case rel => exact ⟨i + 1, by first | exact congrArg _ HW1.out | rfl, ⟨by have := HK.out; omega⟩, BK22, BK23, ⟨pw_below_drewN HB.out nq⟩⟩
                            · have hx : decide ((i : Int) < a3) = false := decide_eq_false (by have := HLN.out; omega)
                              have hxn : ¬ (i : Int) < a3 := by have := HLN.out; omega
                              go_wp2_with fail
                              go_ret
                              exact ⟨rfl, below_step HA.out HB.out⟩
                        · rw [if_neg hz] at hkw
                          simp only [Bool.and_eq_true, decide_eq_true_eq, Prod.mk.injEq] at hkw
                          obtain ⟨⟨e1, e2⟩, e3⟩ := hkw
                          have z0 : (W1 != 0) = true := bne_iff_ne.mpr hz
                          have z1 : (W1 == 0) = false := beq_eq_false_iff_ne.mpr hz
                          have e4 := X2.out hz
                          clear X2
                          subst e4
                          subst e1
                          subst e2
                          subst e3
                          have z2 : (k2 == k2) = true := beq_self_eq_true k2
                          have z3 : (k3 == k3) = true := beq_self_eq_true k3
                          go_wp2_with fail
                          go_ret
                          exact ⟨by first | rfl | simp, below_step HA.out HB.out⟩
      · rw [if_neg hkw] at h
        cases h
    · rw [if_neg hth] at h
      cases h
end Go.Proofs.Ytbkdaofddnkaaaa.PAm
