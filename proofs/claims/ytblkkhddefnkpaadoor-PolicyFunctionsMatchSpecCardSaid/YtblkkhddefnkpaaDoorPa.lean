/- The parser's state; accept, fail, add. By hand. -/
import Derived.Test.YtblkkhddefnkpaaDoorPPox0
import Derived.Test.YtblkkhddefnkpaaDoorPPox1
import Derived.Laws.CopyOwn
namespace Go.Proofs.YtblkkhddefnkpaaDoor.PPo
open Go.RowKit Go.Proofs.YtblkkhddefnkpaaDoorW.PrintWords Go.Proofs.YtblkkhddefnkpaaDoorW.PrintLast Go.Proofs.YtblkkhddefnkpaaDoorW.PrintMore
attribute [local go_sem] max2_int min2_int max_two min_two max_three min_three max_four min_four
attribute [local go_sem] World.cell?_alloc_some
attribute [local go_sem high] eqA28
set_option linter.unusedVariables false
set_option linter.unusedSimpArgs false


abbrev Wd := ByteArray × Int
/-- The parser at block g: its words (a part of the block gw, which nobody writes), its nodes (blocks of B and above), its fault. -/
structure Pv (w : World) (B g gw o cw : Nat) (CW : Array Value) (vn : Value) (ws : List Wd) (ns : List S47) (fc fi : Int) : Prop where
 blk : w.heap[g]? = some (.cells #[.slice (some ⟨gw, o, none⟩) ws.length cw, vn, .int .i64 fc, .int .i64 fi] 56 (0, 0))
 ge : B ≤ g
 wb : w.heap[gw]? = some (.cells CW 67 (0, 0))
 wl : ∀ (j : Nat) (x : Wd), ws[j]? = some x → CW[o + 2 * j]? = some (.string x.1) ∧ CW[o + (2 * j + 1)]? = some (.int .i64 x.2)
 nd : Kd.R k47 47 w B (fun _ => True) vn ns
 wc : ws.length ≤ cw
theorem below_put {B : Nat} {w W : World} (h : Below B w W) {g : Nat} (hg : B ≤ g) (j : Nat) (u : Value) : Below B w (W.setCell ⟨g, j, none⟩ u) := h.setCell (p := ⟨g, j, none⟩) hg u
theorem below_low {B : Nat} {w W w2 : World} (h : Below B w W) (hB : B ≤ W.heap.size) (k : Below W.heap.size W w2) : Below B w w2 := below_then h hB k
section
variable {w w1 : World} {B g gw o cw : Nat} {CW : Array Value} {vn : Value} {ws : List Wd} {ns : List S47} {fc fi : Int}
theorem Pv.size (h : Pv w B g gw o cw CW vn ws ns fc fi) : B ≤ w.heap.size := Nat.le_trans h.ge (Nat.le_of_lt (qB_ h.blk))
theorem Pv.below (h : Pv w B g gw o cw CW vn ws ns fc fi) (hb : Below w.heap.size w w1) : Pv w1 B g gw o cw CW vn ws ns fc fi := ⟨qy_ h.blk hb, h.ge, qy_ h.wb hb, h.wl, Kd.R_below h.nd hb, h.wc⟩
theorem Pv.drewN (h : Pv w B g gw o cw CW vn ws ns fc fi) (m : Nat) : Pv (w.drewN m) B g gw o cw CW vn ws ns fc fi := ⟨qa_ h.blk m, h.ge, qa_ h.wb m, h.wl, Kd.R_drewN h.nd m, h.wc⟩
theorem Pv.drew (h : Pv w B g gw o cw CW vn ws ns fc fi) : Pv w.drew B g gw o cw CW vn ws ns fc fi := ⟨qb_ h.blk, h.ge, qb_ h.wb, h.wl, Kd.R_drew h.nd, h.wc⟩
theorem Pv.nodes (h : Pv w B g gw o cw CW vn ws ns fc fi) : ∃ A c, vn = .slice A ns.length c := Kd.R_slice h.nd
theorem Pv.ne (h : Pv w B g gw o cw CW vn ws ns fc fi) : gw ≠ g := blk_ne h.wb h.blk (by decide)
theorem Pv.put_fault (h : Pv w B g gw o cw CW vn ws ns fc fi) (a b : Int) : Pv ((w.setCell ⟨g, 2, none⟩ (.int .i64 a)).setCell ⟨g, 3, none⟩ (.int .i64 b)) B g gw o cw CW vn ws ns a b :=
 ⟨qA_ (qA_ h.blk 2 (.int .i64 a) rfl) 3 (.int .i64 b) rfl, h.ge, qn_ (qn_ h.wb (p := ⟨g, 2, none⟩) h.ne _) (p := ⟨g, 3, none⟩) h.ne _, h.wl, Kd.R_set (Kd.R_set h.nd h.blk (by decide) _ _) (qA_ h.blk 2 (.int .i64 a) rfl) (by decide) _ _, h.wc⟩
theorem Pv.put_words {x : Wd} (h : Pv w B g gw o cw CW vn (x :: ws) ns fc fi) : Pv (w.setCell ⟨g, 0, none⟩ (.slice (some ⟨gw, o + 2, none⟩) ws.length (cw - 1))) B g gw (o + 2) (cw - 1) CW vn ws ns fc fi :=
 ⟨qA_ h.blk 0 _ rfl, h.ge, qn_ h.wb (p := ⟨g, 0, none⟩) h.ne _, fun j y hj => by
  have := h.wl (j + 1) y hj
  rw [show o + 2 * (j + 1) = o + 2 + 2 * j by omega, show o + (2 * (j + 1) + 1) = o + 2 + (2 * j + 1) by omega] at this
  exact this, Kd.R_set h.nd h.blk (by decide) _ _, by have := h.wc; rw [List.length_cons] at this; omega⟩
theorem Pv.put_nd {v1 : Value} {ns1 : List S47} (h : Pv w B g gw o cw CW vn ws ns fc fi) (hg : w.grownBy w1 vn.ownBlock) (ho : Kd.R k47 47 w1 B (fun _ => True) v1 ns1) : Pv (w1.setCell ⟨g, 1, none⟩ v1) B g gw o cw CW v1 ws ns1 fc fi := by
 have hb := blk_grown h.blk hg (Kd.R_ne h.nd h.blk (by decide))
 have hw := blk_grown h.wb hg (Kd.R_ne h.nd h.wb (by decide))
 exact ⟨qA_ hb 1 v1 rfl, h.ge, qn_ hw (p := ⟨g, 1, none⟩) h.ne _, h.wl, Kd.R_set ho hb (by decide) _ _, h.wc⟩
end
theorem info47 : (Tryd.prog.info? 47).map (fun i => (i.zero, i.size, i.bytes)) = some (some (.agg #[.int .i64 0, .int .i64 0, .int .i64 0, .int .i64 0]), 4, 32) := by kernel_rfl
/-- The parser's state. -/
structure PS where
 ws : List Wd
 ns : List S47
 fc : Int
 fi : Int
def Pst (w : World) (B g gw : Nat) (CW : Array Value) (s : PS) : Prop := ∃ o cw vn, Pv w B g gw o cw CW vn s.ws s.ns s.fc s.fi
def pFail (code : Int) (s : PS) : Option PS := match s.ws with | [] => none | x :: _ => some (if s.fc = 0 ∧ s.fi = 0 then ⟨s.ws, s.ns, code, x.2⟩ else s)
def pAcc (t : ByteArray) (s : PS) : Option (Bool × PS) := match s.ws with
 | [] => none
 | x :: tl => if x.1.toList = t.toList ∧ s.fc = 0 ∧ s.fi = 0 then (match tl with | [] => none | y :: tl' => some (true, ⟨y :: tl', s.ns, s.fc, s.fi⟩)) else some (false, s)
def pAdd (n : S47) (s : PS) : Option (Int × PS) := if s.ns.length < 1000000 then some ((s.ns.length : Int), ⟨s.ws, s.ns ++ [n], s.fc, s.fi⟩) else none
set_option maxHeartbeats 8000000 in
set_option maxRecDepth 100000 in
theorem accept.calls (B g gw : Nat) (CW : Array Value) (t : ByteArray) (s s' : PS) (b : Bool) (w : World) (hp : Pst w B g gw CW s) (h : pAcc t s = some (b, s')) :
  Calls Tryd.prog 50 #[.pointer (some ⟨g, 0, none⟩), .string t] w fun e w' => e = .returned (.bool b) ∧ Pst w' B g gw CW s' ∧ Below B w w' := by
 have hu56 := Tryd.underlying56
 have hu67 := Tryd.underlying67
 have hu28 := Tryd.underlying28
 have hu47 := Tryd.underlying47
 obtain ⟨ws, ns, fc, fi⟩ := s
 obtain ⟨o, cw, vn, hpv⟩ := hp
 replace hpv : Pv w B g gw o cw CW vn ws ns fc fi := hpv
 obtain ⟨An, cn, rfl⟩ := hpv.nodes
 have RV := Aside0.mk hpv
 have HB := Aside0.mk (Below.refl B w)
 have xg0 := (qm_ hpv.blk 0).trans rfl
 have xg1 := (qm_ hpv.blk 1).trans rfl
 have xg2 := (qm_ hpv.blk 2).trans rfl
 have xg3 := (qm_ hpv.blk 3).trans rfl
 have zg0 := blk_frozen hpv.blk 0
 have zg1 := blk_frozen hpv.blk 1
 have zg2 := blk_frozen hpv.blk 2
 have zg3 := blk_frozen hpv.blk 3
 unfold pAcc at h
 dsimp only at h
 cases ws with
 | nil => cases h
 | cons x tl =>
   have yw0 : w.cell? ⟨gw, o, none⟩ = some (.string x.1) := (qm_ hpv.wb o).trans (hpv.wl 0 x rfl).1
   have yw1 : w.cell? ⟨gw, o + 1, none⟩ = some (.int .i64 x.2) := (qm_ hpv.wb (o + 1)).trans (hpv.wl 0 x rfl).2
   clear hpv
   dsimp only at h
   by_cases q : x.1.toList = t.toList ∧ fc = 0 ∧ fi = 0
   ·rw [if_pos q] at h
    obtain ⟨q1, q2, q3⟩ := q
    cases tl with
    | nil => cases h
    | cons y tl' =>
     simp only [Option.some.injEq, Prod.mk.injEq] at h
     obtain ⟨rfl, rfl⟩ := h
     have q1b : (x.1.toList != t.toList) = false := bne_eq_false_iff_eq.mpr q1
     have q1c : (x.1.toList == t.toList) = true := beq_iff_eq.mpr q1
     subst q2
     subst q3
     have hcw := RV.out.wc
     rw [List.length_cons, List.length_cons] at hcw
     have hc1 : ¬ cw = 1 := by omega
     have hc2 : ¬ (cw : Int) = 1 := by omega
     have hl1 : (1 : Int) ≤ ((tl'.length + 1 + 1 : Nat) : Int) := by omega
     have RVX : Aside0 ((x :: y :: tl').length ≤ cw) := Aside0.mk RV.out.wc
     go_enter Tryd.func50, Tryd.ntmps50
     go_wp2_with (fail)
     go_ret
     exact ⟨rfl, ⟨o + 2, cw - 1, _, Pv.put_words RV.out⟩, below_put HB.out RV.out.ge 0 _⟩
   ·rw [if_neg q] at h
    simp only [Option.some.injEq, Prod.mk.injEq] at h
    obtain ⟨rfl, rfl⟩ := h
    by_cases q1 : x.1.toList = t.toList
    ·have q3 : (fc == 0 && (fi == 0)) = false := by
      rw [Bool.and_eq_false_iff]
      by_cases c1 : fc = 0
      ·exact .inr (beq_eq_false_iff_ne.mpr fun c2 => q ⟨q1, c1, c2⟩)
      ·exact .inl (beq_eq_false_iff_ne.mpr c1)
     have q2 : (!(fc == 0) || !(fi == 0)) = true := by
      rw [← Bool.not_and, q3]
      rfl
     have q1b : (x.1.toList != t.toList) = false := bne_eq_false_iff_eq.mpr q1
     have q1c : (x.1.toList == t.toList) = true := beq_iff_eq.mpr q1
     go_enter Tryd.func50, Tryd.ntmps50
     go_wp2_with (fail)
     go_ret
     exact ⟨rfl, ⟨o, cw, _, RV.out⟩, HB.out⟩
    ·have q1b : (x.1.toList != t.toList) = true := bne_iff_ne.mpr q1
     have q1c : (x.1.toList == t.toList) = false := beq_eq_false_iff_ne.mpr q1
     go_enter Tryd.func50, Tryd.ntmps50
     go_wp2_with (fail)
     go_ret
     exact ⟨rfl, ⟨o, cw, _, RV.out⟩, HB.out⟩
set_option maxHeartbeats 8000000 in
set_option maxRecDepth 100000 in
theorem fail.calls (B g gw : Nat) (CW : Array Value) (code : Int) (s s' : PS) (w : World) (hp : Pst w B g gw CW s) (h : pFail code s = some s') :
  Calls Tryd.prog 32 #[.pointer (some ⟨g, 0, none⟩), .int .i64 code] w fun e w' => e = .returned (.tuple #[]) ∧ Pst w' B g gw CW s' ∧ Below B w w' := by
 have hu56 := Tryd.underlying56
 have hu67 := Tryd.underlying67
 have hu28 := Tryd.underlying28
 have hu47 := Tryd.underlying47
 obtain ⟨ws, ns, fc, fi⟩ := s
 obtain ⟨o, cw, vn, hpv⟩ := hp
 replace hpv : Pv w B g gw o cw CW vn ws ns fc fi := hpv
 obtain ⟨An, cn, rfl⟩ := hpv.nodes
 have RV := Aside0.mk hpv
 have HB := Aside0.mk (Below.refl B w)
 have xg0 := (qm_ hpv.blk 0).trans rfl
 have xg1 := (qm_ hpv.blk 1).trans rfl
 have xg2 := (qm_ hpv.blk 2).trans rfl
 have xg3 := (qm_ hpv.blk 3).trans rfl
 have zg0 := blk_frozen hpv.blk 0
 have zg1 := blk_frozen hpv.blk 1
 have zg2 := blk_frozen hpv.blk 2
 have zg3 := blk_frozen hpv.blk 3
 unfold pFail at h
 dsimp only at h
 cases ws with
 | nil => cases h
 | cons x tl =>
   have yw0 : w.cell? ⟨gw, o, none⟩ = some (.string x.1) := (qm_ hpv.wb o).trans (hpv.wl 0 x rfl).1
   have yw1 : w.cell? ⟨gw, o + 1, none⟩ = some (.int .i64 x.2) := (qm_ hpv.wb (o + 1)).trans (hpv.wl 0 x rfl).2
   clear hpv
   dsimp only at h
   have h2 := Option.some.inj h
   clear h
   by_cases q : fc = 0 ∧ fi = 0
   ·rw [if_pos q] at h2
    obtain ⟨q1, q2⟩ := q
    subst h2
    subst q1
    subst q2
    have hl1 : (0 : Int) < ((tl.length + 1 : Nat) : Int) := by omega
    go_enter Tryd.func32, Tryd.ntmps32
    go_wp2_with (fail)
    refine bodyPost_end (results_none rfl _ _ _) rfl ?_
    exact ⟨rfl, ⟨o, cw, _, Pv.put_fault RV.out _ _⟩, below_put (below_put HB.out RV.out.ge 2 _) RV.out.ge 3 _⟩
   ·rw [if_neg q] at h2
    subst h2
    have q3 : (fc == 0 && (fi == 0)) = false := by
     rw [Bool.and_eq_false_iff]
     by_cases c1 : fc = 0
     ·exact .inr (beq_eq_false_iff_ne.mpr fun c2 => q ⟨c1, c2⟩)
     ·exact .inl (beq_eq_false_iff_ne.mpr c1)
    clear q
    go_enter Tryd.func32, Tryd.ntmps32
    go_wp2_with (fail)
    refine bodyPost_end (results_none rfl _ _ _) rfl ?_
    exact ⟨rfl, ⟨o, cw, _, RV.out⟩, HB.out⟩
set_option maxHeartbeats 8000000 in
set_option maxRecDepth 100000 in
theorem add.calls (B g gw : Nat) (CW : Array Value) (n : S47) (s s' : PS) (r : Int) (w : World) (hp : Pst w B g gw CW s) (h : pAdd n s = some (r, s')) :
  Calls Tryd.prog 40 #[.pointer (some ⟨g, 0, none⟩), .agg #[.int .i64 n.f0, .int .i64 n.f1, .int .i64 n.f2, .int .i64 n.f3]] w fun e w' => e = .returned (.int .i64 r) ∧ Pst w' B g gw CW s' ∧ Below B w w' := by
 have hu56 := Tryd.underlying56
 have hu67 := Tryd.underlying67
 have hu28 := Tryd.underlying28
 have hu47 := Tryd.underlying47
 obtain ⟨ws, ns, fc, fi⟩ := s
 obtain ⟨o, cw, vn, hpv⟩ := hp
 replace hpv : Pv w B g gw o cw CW vn ws ns fc fi := hpv
 obtain ⟨An, cn, rfl⟩ := hpv.nodes
 have RV := Aside0.mk hpv
 have HB := Aside0.mk (Below.refl B w)
 have xg0 := (qm_ hpv.blk 0).trans rfl
 have xg1 := (qm_ hpv.blk 1).trans rfl
 have xg2 := (qm_ hpv.blk 2).trans rfl
 have xg3 := (qm_ hpv.blk 3).trans rfl
 have zg0 := blk_frozen hpv.blk 0
 have zg1 := blk_frozen hpv.blk 1
 have zg2 := blk_frozen hpv.blk 2
 have zg3 := blk_frozen hpv.blk 3
 unfold pAdd at h
 dsimp only at h
 by_cases q : ns.length < 1000000
 ·rw [if_pos q] at h
  simp only [Option.some.injEq, Prod.mk.injEq] at h
  obtain ⟨rfl, rfl⟩ := h
  clear hpv
  have hnl : (ns.length + 1) * 32 ≤ 140737488355328 := by omega
  have hw1 : wrap64 (((ns.length + 1 : Nat) : Int) - 1) = (ns.length : Int) := by unfold wrap64; omega
  have hw2 : wrap64 (((ns.length : Int) + 1) - 1) = (ns.length : Int) := by unfold wrap64; omega
  go_enter Tryd.func40, Tryd.ntmps40
  go_wp2_with (first | ((with_reducible refine gate_dst (N := 3) rfl ?_); refine qE_ ?hg (N := 3) ?hd (cs := #[.int .i64 n.f0, .int .i64 n.f1, .int .i64 n.f2, .int .i64 n.f3]) (t := 47) ?hr ?_; (case hd => rfl); (case hg => rfl); (case hr => first | (go_simp; done) | (go_simp; rfl)); intro g3 hg w3 hbox hb; have n0_ := Aside0.mk (below_low HB.out (RV.out.size) hb); have n1_ := Aside0.mk (RV.out.below hb); have BK3 := Aside0.mk hbox; clear HB RV; have HB := n0_; have RV := n1_; clear n0_ n1_ hb hbox hg; (try clear xg0 xg1 xg2 xg3 zg0 zg1 zg2 zg3); have xg0 := (qm_ RV.out.blk 0).trans rfl; have xg1 := (qm_ RV.out.blk 1).trans rfl; have zg1 := blk_frozen RV.out.blk 1; have xe0 := (qm_ BK3.out 0).trans rfl; have xe1 := (qm_ BK3.out 1).trans rfl; have xe2 := (qm_ BK3.out 2).trans rfl; have xe3 := (qm_ BK3.out 3).trans rfl) | fail)
  have ng1 : g ≠ w3.heap.size := Nat.ne_of_lt (qB_ RV.out.blk)
  have nl1 : g < w3.heap.size := qB_ RV.out.blk
  have ng3 : g3 ≠ w3.heap.size := Nat.ne_of_lt (qB_ BK3.out)
  have nl3 : g3 < w3.heap.size := qB_ BK3.out
  go_region_law ((refine Kd.R_append_step k47 (w0 := w) B rfl (.tmp 9) (.tmp 11) 22 47 (.agg #[.int .i64 0, .int .i64 0, .int .i64 0, .int .i64 0]) 32 rfl Tryd.underlying22 info47 rfl (by decide) (by omega) (.slice An ns.length cn) ns n [.int .i64 n.f0, .int .i64 n.f1, .int .i64 n.f2, .int .i64 n.f3] (fun _ => True) (fun _ => False) rfl rfl (k47_mkM _ _ _ _) (fun _ hk => hk.elim) (fun _ _ => trivial) (Kd.R_drew RV.out.nd) (qf_ HB.out) RV.out.size hnl ?_); intro v1 w6 ho hb hg hat; obtain ⟨A1, c1, ev1⟩ := Kd.R_slice ho; obtain rfl : v1 = .slice A1 (ns.length + 1) c1 := (by rw [ev1, List.length_append]; rfl); clear ev1; have BG := Aside0.mk (blk_grown (qb_ RV.out.blk) hg (Kd.R_ne RV.out.nd RV.out.blk (by decide))); have HB6 := Aside0.mk hb; have HO := Aside0.mk ho; have HG := Aside0.mk hg; clear hb ho hg hat; have yg1 := (qm_ BG.out 1).trans rfl; have yf1 := blk_frozen BG.out 1)

  all_goals go_wp2
  all_goals go_ret
  all_goals exact ⟨by first | rfl | (simp [hw1, hw2]), ⟨o, cw, _, Pv.put_nd (RV.out.drew) HG.out HO.out⟩, HB6.out.setCell (p := ⟨g, 1, none⟩) RV.out.ge _⟩
 ·rw [if_neg q] at h
  cases h
end Go.Proofs.YtblkkhddefnkpaaDoor.PPo
-- printed by drv.py (a program of this repo, over the kit's printer): one more fact of a struct type
namespace Go.Proofs.YtblkkhddefnkpaaDoor.PPo
open Go.RowKit Go.Proofs.YtblkkhddefnkpaaDoorW.PrintWords Go.Proofs.YtblkkhddefnkpaaDoorW.PrintLast Go.Proofs.YtblkkhddefnkpaaDoorW.PrintMore
theorem k47_heap : Kd.Heap k47 := Kd.heap_iso _ (Kd.heap_pair (Kd.heap_int .i64) (Kd.heap_pair (Kd.heap_int .i64) (Kd.heap_pair (Kd.heap_int .i64) (Kd.heap_int .i64))))
end Go.Proofs.YtblkkhddefnkpaaDoor.PPo
