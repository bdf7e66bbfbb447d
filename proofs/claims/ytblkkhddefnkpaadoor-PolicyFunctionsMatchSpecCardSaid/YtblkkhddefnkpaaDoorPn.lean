/- Normal. By hand. -/
import Derived.Test.YtblkkhddefnkpaaDoorPp
import Derived.Laws.CopyOwn
namespace Go.Proofs.YtblkkhddefnkpaaDoor.PPo
open Go.RowKit Go.Proofs.YtblkkhddefnkpaaDoorW.PrintWords Go.Proofs.YtblkkhddefnkpaaDoorW.PrintLast Go.Proofs.YtblkkhddefnkpaaDoorW.PrintMore
attribute [local go_sem] max2_int min2_int max_two min_two max_three min_three max_four min_four
attribute [local go_sem] World.cell?_alloc_some
attribute [local go_sem high] eqA28
set_option linter.unusedVariables false
set_option linter.unusedSimpArgs false


/-- A parser at block g of which the nodes alone are looked at. -/
structure Nv (w : World) (B g : Nat) (a b c : Value) (vn : Value) (ns : List S47) : Prop where
 blk : w.heap[g]? = some (.cells #[a, vn, b, c] 56 (0, 0))
 ge : B ≤ g
 nd : Kd.R k47 47 w B (fun _ => True) vn ns
def Nst (w : World) (B g : Nat) (a b c : Value) (ns : List S47) : Prop := ∃ vn, Nv w B g a b c vn ns
section
variable {w w1 : World} {B g : Nat} {a b c : Value} {vn : Value} {ns : List S47}
theorem Nv.size (h : Nv w B g a b c vn ns) : B ≤ w.heap.size := Nat.le_trans h.ge (Nat.le_of_lt (qB_ h.blk))
theorem Nv.below (h : Nv w B g a b c vn ns) (hb : Below w.heap.size w w1) : Nv w1 B g a b c vn ns := ⟨qy_ h.blk hb, h.ge, Kd.R_below h.nd hb⟩
theorem Nv.drew (h : Nv w B g a b c vn ns) : Nv w.drew B g a b c vn ns := ⟨qb_ h.blk, h.ge, Kd.R_drew h.nd⟩
theorem Nv.nodes (h : Nv w B g a b c vn ns) : ∃ A c, vn = .slice A ns.length c := Kd.R_slice h.nd
theorem Nv.put_nd {v1 : Value} {ns1 : List S47} (h : Nv w B g a b c vn ns) (hg : w.grownBy w1 vn.ownBlock) (ho : Kd.R k47 47 w1 B (fun _ => True) v1 ns1) : Nv (w1.setCell ⟨g, 1, none⟩ v1) B g a b c v1 ns1 := by
 have hb := blk_grown h.blk hg (Kd.R_ne h.nd h.blk (by decide))
 exact ⟨qA_ hb 1 v1 rfl, h.ge, Kd.R_set ho hb (by decide) _ _⟩
theorem Nst.size (h : Nst w B g a b c ns) : B ≤ w.heap.size := by
 obtain ⟨vn, h⟩ := h
 exact h.size
theorem Nst.below (h : Nst w B g a b c ns) (hb : Below w.heap.size w w1) : Nst w1 B g a b c ns := by
 obtain ⟨vn, h⟩ := h
 exact ⟨vn, h.below hb⟩
/-- A store into a block that is new: neither the parser nor its nodes. -/
theorem Nv.far {w2 : World} {x : Nat} (h : Nv w1 B g a b c vn ns) (hg : g ≠ x) (hne : some x ≠ vn.ownBlock) (ho : ∀ k, k ≠ x → w2.heap[k]? = w1.heap[k]?) : Nv w2 B g a b c vn ns :=
 ⟨(ho g hg).trans h.blk, h.ge, Kd.R_mono (Kd.R_move (Kd.R_far1 h.nd rfl hne) (fun k hk => ho k hk.2)) (fun _ _ => trivial)⟩
end
/-- What a method of the parser leaves as it was: all but its block and the row of its nodes. -/
structure Kp (w w1 : World) (g : Nat) (v v1 : Value) : Prop where
 keep : ∀ k, k < w.heap.size → k ≠ g → some k ≠ v.ownBlock → w1.heap[k]? = w.heap[k]?
 row : v1.ownBlock = v.ownBlock ∨ ∀ k, v1.ownBlock = some k → w.heap.size ≤ k
 size : w.heap.size ≤ w1.heap.size
theorem Kp.refl (w : World) (g : Nat) (v : Value) : Kp w w g v v := ⟨fun _ _ _ _ => rfl, .inl rfl, Nat.le_refl _⟩
theorem Kp.ne {w w1 : World} {g x : Nat} {v v1 : Value} (h : Kp w w1 g v v1) (hx : x < w.heap.size) (hn : some x ≠ v.ownBlock) : some x ≠ v1.ownBlock := by
 rcases h.row with e | e
 ·rw [e]; exact hn
 ·intro e2
  have := e x e2.symm
  omega
theorem Kp.trans {w w1 w2 : World} {g : Nat} {v v1 v2 : Value} (h : Kp w w1 g v v1) (k : Kp w1 w2 g v1 v2) : Kp w w2 g v v2 :=
 ⟨fun x hx hg hn => (k.keep x (Nat.lt_of_lt_of_le hx h.size) hg (h.ne hx hn)).trans (h.keep x hx hg hn), by
  rcases k.row with e | e
  ·rw [e]; exact h.row
  ·exact .inr fun x hx => Nat.le_trans h.size (e x hx), Nat.le_trans h.size k.size⟩
theorem Kp.below {w w1 w2 : World} {g : Nat} {v v1 : Value} (h : Kp w w1 g v v1) (k : Below w1.heap.size w1 w2) : Kp w w2 g v v1 :=
 ⟨fun x hx hg hn => (k.block x (Nat.lt_of_lt_of_le hx h.size)).trans (h.keep x hx hg hn), h.row, Nat.le_trans h.size k.size⟩
theorem Kp.far {w w1 w2 : World} {g x : Nat} {v v1 : Value} (h : Kp w w1 g v v1) (hx : w.heap.size ≤ x) (ho : ∀ k, k ≠ x → w2.heap[k]? = w1.heap[k]?) (hs : w1.heap.size ≤ w2.heap.size) : Kp w w2 g v v1 :=
 ⟨fun k hk hg hn => (ho k (by omega)).trans (h.keep k hk hg hn), h.row, Nat.le_trans h.size hs⟩
theorem Kp.blk {w w1 : World} {g x : Nat} {v v1 : Value} {o : Obj} (h : Kp w w1 g v v1) (hb : w.heap[x]? = some o) (hg : x ≠ g) (hn : some x ≠ v.ownBlock) : w1.heap[x]? = some o := (h.keep x (qB_ hb) hg hn).trans hb
theorem Kp_add {w w3 w6 : World} {g : Nat} {v v1 u : Value} (hb : Below w.heap.size w w3) (hg : w3.drew.grownBy w6 v.ownBlock) (hat : v1.ownBlock = v.ownBlock ∨ ∃ b, v1.ownBlock = some b ∧ w3.drew.heap.size ≤ b) : Kp w (w6.setCell ⟨g, 1, none⟩ u) g v v1 := by
 have hsz : w3.drew.heap.size = w3.heap.size := rfl
 refine ⟨fun k hk hkg hn => ?_, ?_, ?_⟩
 ·rw [Below.heap_setCell w6 ⟨g, 1, none⟩ u k hkg]
  have h1 := hg.block k (by rw [hsz]; exact Nat.lt_of_lt_of_le hk hb.size) hn
  exact h1.trans (hb.block k hk)
 ·rcases hat with e | ⟨b, e, hle⟩
  ·exact .inl e
  ·refine .inr fun k hk => ?_
   rw [e] at hk
   obtain rfl := Option.some.inj hk
   have := hb.size
   omega
 ·rw [World.size_setCell]
  have h1 := hg.size
  have := hb.size
  omega
def nAdd (n : S47) (ns : List S47) : Option (Int × List S47) := if ns.length < 1000000 then some ((ns.length : Int), ns ++ [n]) else none
def normM (l : List S47) : Nat → Int → Bool → List S47 → Option (Int × List S47)
 | 0, _, _, _ => none
 | k + 1, i, neg, out => if 0 ≤ i ∧ i < (l.length : Int) then
   (if (qj_ l i).f0 = 5 then normM l k (qj_ l i).f2 (!neg) out
    else if (qj_ l i).f0 < 5 then (if neg = true then (nAdd (qj_ l i) out).bind fun a => nAdd ⟨5, 0, a.1, 0⟩ a.2 else nAdd (qj_ l i) out)
    else (normM l k (qj_ l i).f2 neg out).bind fun a => (normM l k (qj_ l i).f3 neg a.2).bind fun b => nAdd ⟨if neg = true then wrap64 (13 - (qj_ l i).f0) else (qj_ l i).f0, 0, a.1, b.1⟩ b.2)
  else none
theorem normM.mono (l : List S47) : ∀ (k : Nat) (i : Int) (neg : Bool) (out : List S47), LeO (normM l k i neg out) (normM l (k + 1) i neg out)
 | 0, _, _, _ => LeO.none _
 | k + 1, i, neg, out => LeO.ite (LeO.ite (normM.mono l k _ _ _) (LeO.ite (LeO.refl _) (LeO.bind (normM.mono l k _ _ _) (fun _ => LeO.bind (normM.mono l k _ _ _) (fun _ => LeO.refl _))))) (LeO.refl _)
set_option maxHeartbeats 8000000 in
set_option maxRecDepth 100000 in
theorem add2.calls (B g : Nat) (a b c : Value) (n : S47) (ns s' : List S47) (r : Int) (vn : Value) (w : World) (hp : Nv w B g a b c vn ns) (h : nAdd n ns = some (r, s')) :
  Calls Tryd.prog 40 #[.pointer (some ⟨g, 0, none⟩), .agg #[.int .i64 n.f0, .int .i64 n.f1, .int .i64 n.f2, .int .i64 n.f3]] w fun e w' => ∃ vn' : Value, e = .returned (.int .i64 r) ∧ Nv w' B g a b c vn' s' ∧ Below B w w' ∧ Kp w w' g vn vn' := by
 have hu56 := Tryd.underlying56
 have hu47 := Tryd.underlying47
 have hpv := hp
 clear hp
 obtain ⟨An, cn, rfl⟩ := hpv.nodes
 have RV := Aside0.mk hpv
 have HB := Aside0.mk (Below.refl B w)
 have xg0 := (qm_ hpv.blk 0).trans rfl
 have xg1 := (qm_ hpv.blk 1).trans rfl
 have xg2 := (qm_ hpv.blk 2).trans rfl
 have xg3 := (qm_ hpv.blk 3).trans rfl
 have zg0 := blk_frozen hpv.blk 0
 have zg1 := blk_frozen hpv.blk 1
 have zg2 := blk_frozen hpv.blk 2
 have zg3 := blk_frozen hpv.blk 3
 unfold nAdd at h
 by_cases q : ns.length < 1000000
 ·rw [if_pos q] at h
  simp only [Option.some.injEq, Prod.mk.injEq] at h
  obtain ⟨rfl, rfl⟩ := h
  clear hpv
  have hnl : (ns.length + 1) * 32 ≤ 140737488355328 := by omega
  have hw1 : wrap64 (((ns.length + 1 : Nat) : Int) - 1) = (ns.length : Int) := by unfold wrap64; omega
  have hw2 : wrap64 (((ns.length : Int) + 1) - 1) = (ns.length : Int) := by unfold wrap64; omega
  go_enter Tryd.func40, Tryd.ntmps40
  go_wp2_with (first | ((with_reducible refine gate_dst (N := 3) rfl ?_); refine qE_ ?hg (N := 3) ?hd (cs := #[.int .i64 n.f0, .int .i64 n.f1, .int .i64 n.f2, .int .i64 n.f3]) (t := 47) ?hr ?_; (case hd => rfl); (case hg => rfl); (case hr => first | (go_simp; done) | (go_simp; rfl)); intro g3 hg w3 hbox hb; have n0_ := Aside0.mk (below_low HB.out (RV.out.size) hb); have n1_ := Aside0.mk (RV.out.below hb); have BK3 := Aside0.mk hbox; have HS := Aside0.mk hb; clear HB RV; have HB := n0_; have RV := n1_; clear n0_ n1_ hb hbox hg; (try clear xg0 xg1 xg2 xg3 zg0 zg1 zg2 zg3); have xg0 := (qm_ RV.out.blk 0).trans rfl; have xg1 := (qm_ RV.out.blk 1).trans rfl; have zg1 := blk_frozen RV.out.blk 1; have xe0 := (qm_ BK3.out 0).trans rfl; have xe1 := (qm_ BK3.out 1).trans rfl; have xe2 := (qm_ BK3.out 2).trans rfl; have xe3 := (qm_ BK3.out 3).trans rfl) | fail)
  have ng1 : g ≠ w3.heap.size := Nat.ne_of_lt (qB_ RV.out.blk)
  have nl1 : g < w3.heap.size := qB_ RV.out.blk
  have ng3 : g3 ≠ w3.heap.size := Nat.ne_of_lt (qB_ BK3.out)
  have nl3 : g3 < w3.heap.size := qB_ BK3.out
  go_region_law ((refine Kd.R_append_step k47 (w0 := w) B rfl (.tmp 9) (.tmp 11) 22 47 (.agg #[.int .i64 0, .int .i64 0, .int .i64 0, .int .i64 0]) 32 rfl Tryd.underlying22 info47 rfl (by decide) (by omega) (.slice An ns.length cn) ns n [.int .i64 n.f0, .int .i64 n.f1, .int .i64 n.f2, .int .i64 n.f3] (fun _ => True) (fun _ => False) rfl rfl (k47_mkM _ _ _ _) (fun _ hk => hk.elim) (fun _ _ => trivial) (Kd.R_drew RV.out.nd) (qf_ HB.out) RV.out.size hnl ?_); intro v1 w6 ho hb hg hat; obtain ⟨A1, c1, ev1⟩ := Kd.R_slice ho; obtain rfl : v1 = .slice A1 (ns.length + 1) c1 := (by rw [ev1, List.length_append]; rfl); clear ev1; have BG := Aside0.mk (blk_grown (qb_ RV.out.blk) hg (Kd.R_ne RV.out.nd RV.out.blk (by decide))); have HB6 := Aside0.mk hb; have HO := Aside0.mk ho; have HG := Aside0.mk hg; have HAT := Aside0.mk hat; clear hb ho hg hat; have yg1 := (qm_ BG.out 1).trans rfl; have yf1 := blk_frozen BG.out 1)

  all_goals go_wp2
  all_goals go_ret
  all_goals exact ⟨_, by first | rfl | (simp [hw1, hw2]), Nv.put_nd (RV.out.drew) HG.out HO.out, HB6.out.setCell (p := ⟨g, 1, none⟩) RV.out.ge _, Kp_add HS.out HG.out HAT.out⟩
 ·rw [if_neg q] at h
  cases h
set_option maxHeartbeats 8000000 in
set_option maxRecDepth 100000 in
theorem normal.calls (B g : Nat) (a b c : Value) (A : Option Addr) (c0 : Nat) (l : List S47) (hc : l.length ≤ c0) : ∀ (k : Nat) (i : Int) (neg : Bool) (ns s' : List S47) (r : Int) (vn : Value) (w : World) (hp : Nv w B g a b c vn ns) (hl : ∀ W, Below B w W → Kd.C k47 W A l.length l) (h : normM l k i neg ns = some (r, s')),
  Calls Tryd.prog 26 #[.pointer (some ⟨g, 0, none⟩), .agg #[.slice A l.length c0], .int .i64 i, .bool neg] w fun e w' => ∃ vn' : Value, e = .returned (.int .i64 r) ∧ Nv w' B g a b c vn' s' ∧ Below B w w' ∧ Kp w w' g vn vn' := by
 intro k
 have hu24 := Tryd.underlying24
 have hu47 := Tryd.underlying47
 induction k with
 | zero => intro i neg ns s' r vn w hp hl h; cases h
 | succ k ih =>
  intro i neg ns s' r vn w hp hl h
  unfold normM at h
  by_cases q : 0 ≤ i ∧ i < (l.length : Int)
  ·rw [if_pos q] at h
   obtain ⟨q0, q1⟩ := q
   obtain ⟨ad, hA, _⟩ := at_T47 (hl w (Below.refl B w)) i q0 q1
   subst hA
   have HX : Aside0 (∀ W, Below B w W → W.cell? (ad.add (i.toNat * 4)) = some (.int .i64 (qj_ l i).f0) ∧ W.cell? ⟨(ad.add (i.toNat * 4)).block, (ad.add (i.toNat * 4)).off + 1, none⟩ = some (.int .i64 (qj_ l i).f1) ∧ W.cell? ⟨(ad.add (i.toNat * 4)).block, (ad.add (i.toNat * 4)).off + 2, none⟩ = some (.int .i64 (qj_ l i).f2) ∧ W.cell? ⟨(ad.add (i.toNat * 4)).block, (ad.add (i.toNat * 4)).off + 3, none⟩ = some (.int .i64 (qj_ l i).f3)) := ⟨fun W hW => by
    obtain ⟨ad', e, y⟩ := at_T47 (hl W hW) i q0 q1
    injection e with e
    subst e
    exact y⟩
   have HP := Aside0.mk hl
   have NV := Aside0.mk hp
   have HB := Aside0.mk (Below.refl B w)
   have KPX := Aside0.mk (Kp.refl w g vn)
   have hit : i.toNat < l.length := by omega
   clear hp hl
   by_cases c1 : (qj_ l i).f0 = 5
   ·rw [if_pos c1] at h
    have H1 := Aside0.mk h
    have c1b : ((qj_ l i).f0 == 5) = true := beq_iff_eq.mpr c1
    clear h c1
    go_enter Tryd.func26, Tryd.ntmps26
    go_wp2_with (first | ((with_reducible refine gate_dst (N := 5) rfl ?_); refine qE_ ?hg (N := 5) ?hd (cs := #[.slice (some ad) l.length c0]) (t := 24) ?hr ?_; (case hd => rfl); (case hg => rfl); (case hr => first | kernel_rfl | (go_simp; done) | (go_simp; rfl)); intro g5 hg wn5 hbox hb; have BK5 := Aside0.mk hbox; replace HB := Aside0.mk (below_low HB.out (Nv.size NV.out) hb); replace NV := Aside0.mk (Nv.below NV.out hb); replace KPX := Aside0.mk (KPX.out.below hb); clear hb hbox hg; have x5_0 := (qm_ BK5.out 0).trans rfl; obtain ⟨xx0, xx1, xx2, xx3⟩ := HX.out _ HB.out) | ((with_reducible refine gate_dst (N := 9) rfl ?_); refine qE_ ?hg (N := 9) ?hd (cs := #[.int .i64 0, .int .i64 0, .int .i64 0, .int .i64 0]) (t := 47) ?hr ?_; (case hd => rfl); (case hg => rfl); (case hr => first | kernel_rfl | (go_simp; done) | (go_simp; rfl)); intro g9 hg wn9 hbox hb; have NE59 : Aside0 (g5 ≠ g9) := Aside0.mk (by rw [hg]; exact Nat.ne_of_lt (qB_ BK5.out)); have GN9 : Aside0 (g ≠ g9) := Aside0.mk (by rw [hg]; exact Nat.ne_of_lt (qB_ NV.out.blk)); have GE9 : Aside0 (B ≤ g9) := Aside0.mk (by rw [hg]; exact Nv.size NV.out); have KW9 : Aside0 (w.heap.size ≤ g9) := Aside0.mk (by rw [hg]; exact KPX.out.size); have NU9 := Aside0.mk (show some g9 ≠ Value.ownBlock _ from fun e_ => by have h_ := Kd.R_lt NV.out.nd g9 e_.symm; rw [hg] at h_; exact Nat.lt_irrefl _ h_); have BK9 := Aside0.mk hbox; have n5_ := Aside0.mk (qy_ BK5.out hb); replace HB := Aside0.mk (below_low HB.out (Nv.size NV.out) hb); replace NV := Aside0.mk (Nv.below NV.out hb); replace KPX := Aside0.mk (KPX.out.below hb); clear BK5; have BK5 := n5_; clear n5_ hb hbox hg) | ((with_reducible refine gate_storeV (ty := 47) (x := .tmp 9) (y := .tmp 18) rfl ?_); refine store_eventV rfl 47 (.tmp 9) (.tmp 18) rfl g9 #[.int .i64 (qj_ l i).f0, .int .i64 (qj_ l i).f1, .int .i64 (qj_ l i).f2, .int .i64 (qj_ l i).f3] rfl rfl 47 _ BK9.out (by kernel_rfl) rfl (by simp [Value.oneCell']) ?_; intro ws9 hn ho hb; have n5_ := Aside0.mk ((ho _ NE59.out).trans BK5.out); have n0_ := Aside0.mk (hb _ _ GE9.out HB.out); have n1_ := Aside0.mk (Nv.far NV.out GN9.out NU9.out ho); have n2_ := Aside0.mk (KPX.out.far KW9.out ho (hb 0 _ (Nat.zero_le _) (Below.refl 0 _)).size); have nn_ := Aside0.mk hn; clear HB NV KPX BK5 BK9; have HB := n0_; have NV := n1_; have KPX := n2_; clear n0_ n1_ n2_; have BK5 := n5_; have BK9 := nn_; clear n5_ nn_ hn ho hb; (try clear x5_0); have x5_0 := (qm_ BK5.out 0).trans rfl; (try clear x9_0 x9_1 x9_2 x9_3); have x9_0 := (qm_ BK9.out 0).trans rfl; have x9_1 := (qm_ BK9.out 1).trans rfl; have x9_2 := (qm_ BK9.out 2).trans rfl; have x9_3 := (qm_ BK9.out 3).trans rfl) | ((with_reducible refine qs_ (f := 26) rfl ?_); refine goesL_ (some 29) rfl rfl Tryd.func26 (by kernel_rfl) rfl #[.pointer (some ⟨g, 0, none⟩), .agg #[.slice (some ad) l.length c0], .int .i64 (qj_ l i).f2, .bool (!neg)] rfl (by (try simp only [List.map_toArray, List.map_cons, List.map_nil]); first | done | rfl) ?_; refine (ih ((qj_ l i).f2) (!neg) ns _ _ _ _ NV.out (fun W hW => HP.out W (HB.out.trans hW)) H1.out).mono ?_; rintro e w4 ⟨vn1, rfl, hnv, hb, hkp⟩; refine ⟨_, rfl, ?_⟩; have n0_ := Aside0.mk (HB.out.trans hb); have n1_ := Aside0.mk hnv; have n2_ := Aside0.mk (KPX.out.trans hkp); have n5_ := Aside0.mk (hkp.blk BK5.out (blk_ne BK5.out NV.out.blk (by decide)) (Kd.R_ne NV.out.nd BK5.out (by decide))); have n9_ := Aside0.mk (hkp.blk BK9.out (blk_ne BK9.out NV.out.blk (by decide)) NU9.out); have nu_ := Aside0.mk (hkp.ne (qB_ BK9.out) NU9.out); clear HB NV KPX BK5 BK9 NU9; have HB := n0_; have NV := n1_; have KPX := n2_; clear n0_ n1_ n2_; have BK5 := n5_; have BK9 := n9_; have NU9 := nu_; clear n5_ n9_ nu_ hnv hb hkp; (try clear x5_0); have x5_0 := (qm_ BK5.out 0).trans rfl; (try clear x9_0 x9_1 x9_2 x9_3); have x9_0 := (qm_ BK9.out 0).trans rfl; have x9_1 := (qm_ BK9.out 1).trans rfl; have x9_2 := (qm_ BK9.out 2).trans rfl; have x9_3 := (qm_ BK9.out 3).trans rfl) | fail)
    go_ret
    first | exact ⟨_, rfl, NV.out, HB.out, KPX.out⟩ | exact ⟨rfl, _, NV.out, HB.out, KPX.out⟩
   ·rw [if_neg c1] at h
    have c1b : ((qj_ l i).f0 == 5) = false := beq_eq_false_iff_ne.mpr c1
    by_cases c2 : (qj_ l i).f0 < 5
    ·rw [if_pos c2] at h
     have c2b : decide ((qj_ l i).f0 < 5) = true := decide_eq_true c2
     cases neg with
     | true =>
      rw [if_pos rfl] at h
      obtain ⟨⟨m, n1⟩, h1, h2⟩ := Option.bind_eq_some_iff.mp h
      have H1 := Aside0.mk h1
      have H2 := Aside0.mk h2
      clear h h1 h2 c1
      go_enter Tryd.func26, Tryd.ntmps26
      go_wp2_with (first | ((with_reducible refine gate_dst (N := 5) rfl ?_); refine qE_ ?hg (N := 5) ?hd (cs := #[.slice (some ad) l.length c0]) (t := 24) ?hr ?_; (case hd => rfl); (case hg => rfl); (case hr => first | kernel_rfl | (go_simp; done) | (go_simp; rfl)); intro g5 hg wn5 hbox hb; have BK5 := Aside0.mk hbox; replace HB := Aside0.mk (below_low HB.out (Nv.size NV.out) hb); replace NV := Aside0.mk (Nv.below NV.out hb); replace KPX := Aside0.mk (KPX.out.below hb); clear hb hbox hg; have x5_0 := (qm_ BK5.out 0).trans rfl; obtain ⟨xx0, xx1, xx2, xx3⟩ := HX.out _ HB.out) | ((with_reducible refine gate_dst (N := 9) rfl ?_); refine qE_ ?hg (N := 9) ?hd (cs := #[.int .i64 0, .int .i64 0, .int .i64 0, .int .i64 0]) (t := 47) ?hr ?_; (case hd => rfl); (case hg => rfl); (case hr => first | kernel_rfl | (go_simp; done) | (go_simp; rfl)); intro g9 hg wn9 hbox hb; have NE59 : Aside0 (g5 ≠ g9) := Aside0.mk (by rw [hg]; exact Nat.ne_of_lt (qB_ BK5.out)); have GN9 : Aside0 (g ≠ g9) := Aside0.mk (by rw [hg]; exact Nat.ne_of_lt (qB_ NV.out.blk)); have GE9 : Aside0 (B ≤ g9) := Aside0.mk (by rw [hg]; exact Nv.size NV.out); have KW9 : Aside0 (w.heap.size ≤ g9) := Aside0.mk (by rw [hg]; exact KPX.out.size); have NU9 := Aside0.mk (show some g9 ≠ Value.ownBlock _ from fun e_ => by have h_ := Kd.R_lt NV.out.nd g9 e_.symm; rw [hg] at h_; exact Nat.lt_irrefl _ h_); have BK9 := Aside0.mk hbox; have n5_ := Aside0.mk (qy_ BK5.out hb); replace HB := Aside0.mk (below_low HB.out (Nv.size NV.out) hb); replace NV := Aside0.mk (Nv.below NV.out hb); replace KPX := Aside0.mk (KPX.out.below hb); clear BK5; have BK5 := n5_; clear n5_ hb hbox hg) | ((with_reducible refine gate_storeV (ty := 47) (x := .tmp 9) (y := .tmp 18) rfl ?_); refine store_eventV rfl 47 (.tmp 9) (.tmp 18) rfl g9 #[.int .i64 (qj_ l i).f0, .int .i64 (qj_ l i).f1, .int .i64 (qj_ l i).f2, .int .i64 (qj_ l i).f3] rfl rfl 47 _ BK9.out (by kernel_rfl) rfl (by simp [Value.oneCell']) ?_; intro ws9 hn ho hb; have n5_ := Aside0.mk ((ho _ NE59.out).trans BK5.out); have n0_ := Aside0.mk (hb _ _ GE9.out HB.out); have n1_ := Aside0.mk (Nv.far NV.out GN9.out NU9.out ho); have n2_ := Aside0.mk (KPX.out.far KW9.out ho (hb 0 _ (Nat.zero_le _) (Below.refl 0 _)).size); have nn_ := Aside0.mk hn; clear HB NV KPX BK5 BK9; have HB := n0_; have NV := n1_; have KPX := n2_; clear n0_ n1_ n2_; have BK5 := n5_; have BK9 := nn_; clear n5_ nn_ hn ho hb; (try clear x5_0); have x5_0 := (qm_ BK5.out 0).trans rfl; (try clear x9_0 x9_1 x9_2 x9_3); have x9_0 := (qm_ BK9.out 0).trans rfl; have x9_1 := (qm_ BK9.out 1).trans rfl; have x9_2 := (qm_ BK9.out 2).trans rfl; have x9_3 := (qm_ BK9.out 3).trans rfl) | ((with_reducible refine qs_ (f := 40) rfl ?_); refine goesL_ (some 47) rfl rfl Tryd.func40 (by kernel_rfl) rfl #[.pointer (some ⟨g, 0, none⟩), .agg #[.int .i64 (qj_ l i).f0, .int .i64 (qj_ l i).f1, .int .i64 (qj_ l i).f2, .int .i64 (qj_ l i).f3]] rfl (by (try simp only [List.map_toArray, List.map_cons, List.map_nil]); first | done | rfl) ?_; refine (add2.calls B g a b c ⟨(qj_ l i).f0, (qj_ l i).f1, (qj_ l i).f2, (qj_ l i).f3⟩ ns _ _ _ _ NV.out H1.out).mono ?_; rintro e w4 ⟨vn1, rfl, hnv, hb, hkp⟩; refine ⟨_, rfl, ?_⟩; have n0_ := Aside0.mk (HB.out.trans hb); have n1_ := Aside0.mk hnv; have n2_ := Aside0.mk (KPX.out.trans hkp); have n5_ := Aside0.mk (hkp.blk BK5.out (blk_ne BK5.out NV.out.blk (by decide)) (Kd.R_ne NV.out.nd BK5.out (by decide))); have n9_ := Aside0.mk (hkp.blk BK9.out (blk_ne BK9.out NV.out.blk (by decide)) NU9.out); have nu_ := Aside0.mk (hkp.ne (qB_ BK9.out) NU9.out); clear HB NV KPX BK5 BK9 NU9; have HB := n0_; have NV := n1_; have KPX := n2_; clear n0_ n1_ n2_; have BK5 := n5_; have BK9 := n9_; have NU9 := nu_; clear n5_ n9_ nu_ hnv hb hkp; (try clear x5_0); have x5_0 := (qm_ BK5.out 0).trans rfl; (try clear x9_0 x9_1 x9_2 x9_3); have x9_0 := (qm_ BK9.out 0).trans rfl; have x9_1 := (qm_ BK9.out 1).trans rfl; have x9_2 := (qm_ BK9.out 2).trans rfl; have x9_3 := (qm_ BK9.out 3).trans rfl) | ((with_reducible refine qs_ (f := 40) rfl ?_); refine goesL_ (some 51) rfl rfl Tryd.func40 (by kernel_rfl) rfl #[.pointer (some ⟨g, 0, none⟩), .agg #[.int .i64 5, .int .i64 0, .int .i64 m, .int .i64 0]] rfl (by (try simp only [List.map_toArray, List.map_cons, List.map_nil]); first | done | rfl) ?_; refine (add2.calls B g a b c ⟨5, 0, m, 0⟩ n1 _ _ _ _ NV.out H2.out).mono ?_; rintro e w4 ⟨vn1, rfl, hnv, hb, hkp⟩; refine ⟨_, rfl, ?_⟩; have n0_ := Aside0.mk (HB.out.trans hb); have n1_ := Aside0.mk hnv; have n2_ := Aside0.mk (KPX.out.trans hkp); have n5_ := Aside0.mk (hkp.blk BK5.out (blk_ne BK5.out NV.out.blk (by decide)) (Kd.R_ne NV.out.nd BK5.out (by decide))); have n9_ := Aside0.mk (hkp.blk BK9.out (blk_ne BK9.out NV.out.blk (by decide)) NU9.out); have nu_ := Aside0.mk (hkp.ne (qB_ BK9.out) NU9.out); clear HB NV KPX BK5 BK9 NU9; have HB := n0_; have NV := n1_; have KPX := n2_; clear n0_ n1_ n2_; have BK5 := n5_; have BK9 := n9_; have NU9 := nu_; clear n5_ n9_ nu_ hnv hb hkp; (try clear x5_0); have x5_0 := (qm_ BK5.out 0).trans rfl; (try clear x9_0 x9_1 x9_2 x9_3); have x9_0 := (qm_ BK9.out 0).trans rfl; have x9_1 := (qm_ BK9.out 1).trans rfl; have x9_2 := (qm_ BK9.out 2).trans rfl; have x9_3 := (qm_ BK9.out 3).trans rfl) | fail)
      go_ret
      first | exact ⟨_, rfl, NV.out, HB.out, KPX.out⟩ | exact ⟨rfl, _, NV.out, HB.out, KPX.out⟩
     | false =>
      rw [if_neg (show ¬ (false = true) by decide)] at h
      have H1 := Aside0.mk h
      clear h c1
      go_enter Tryd.func26, Tryd.ntmps26
      go_wp2_with (first | ((with_reducible refine gate_dst (N := 5) rfl ?_); refine qE_ ?hg (N := 5) ?hd (cs := #[.slice (some ad) l.length c0]) (t := 24) ?hr ?_; (case hd => rfl); (case hg => rfl); (case hr => first | kernel_rfl | (go_simp; done) | (go_simp; rfl)); intro g5 hg wn5 hbox hb; have BK5 := Aside0.mk hbox; replace HB := Aside0.mk (below_low HB.out (Nv.size NV.out) hb); replace NV := Aside0.mk (Nv.below NV.out hb); replace KPX := Aside0.mk (KPX.out.below hb); clear hb hbox hg; have x5_0 := (qm_ BK5.out 0).trans rfl; obtain ⟨xx0, xx1, xx2, xx3⟩ := HX.out _ HB.out) | ((with_reducible refine gate_dst (N := 9) rfl ?_); refine qE_ ?hg (N := 9) ?hd (cs := #[.int .i64 0, .int .i64 0, .int .i64 0, .int .i64 0]) (t := 47) ?hr ?_; (case hd => rfl); (case hg => rfl); (case hr => first | kernel_rfl | (go_simp; done) | (go_simp; rfl)); intro g9 hg wn9 hbox hb; have NE59 : Aside0 (g5 ≠ g9) := Aside0.mk (by rw [hg]; exact Nat.ne_of_lt (qB_ BK5.out)); have GN9 : Aside0 (g ≠ g9) := Aside0.mk (by rw [hg]; exact Nat.ne_of_lt (qB_ NV.out.blk)); have GE9 : Aside0 (B ≤ g9) := Aside0.mk (by rw [hg]; exact Nv.size NV.out); have KW9 : Aside0 (w.heap.size ≤ g9) := Aside0.mk (by rw [hg]; exact KPX.out.size); have NU9 := Aside0.mk (show some g9 ≠ Value.ownBlock _ from fun e_ => by have h_ := Kd.R_lt NV.out.nd g9 e_.symm; rw [hg] at h_; exact Nat.lt_irrefl _ h_); have BK9 := Aside0.mk hbox; have n5_ := Aside0.mk (qy_ BK5.out hb); replace HB := Aside0.mk (below_low HB.out (Nv.size NV.out) hb); replace NV := Aside0.mk (Nv.below NV.out hb); replace KPX := Aside0.mk (KPX.out.below hb); clear BK5; have BK5 := n5_; clear n5_ hb hbox hg) | ((with_reducible refine gate_storeV (ty := 47) (x := .tmp 9) (y := .tmp 18) rfl ?_); refine store_eventV rfl 47 (.tmp 9) (.tmp 18) rfl g9 #[.int .i64 (qj_ l i).f0, .int .i64 (qj_ l i).f1, .int .i64 (qj_ l i).f2, .int .i64 (qj_ l i).f3] rfl rfl 47 _ BK9.out (by kernel_rfl) rfl (by simp [Value.oneCell']) ?_; intro ws9 hn ho hb; have n5_ := Aside0.mk ((ho _ NE59.out).trans BK5.out); have n0_ := Aside0.mk (hb _ _ GE9.out HB.out); have n1_ := Aside0.mk (Nv.far NV.out GN9.out NU9.out ho); have n2_ := Aside0.mk (KPX.out.far KW9.out ho (hb 0 _ (Nat.zero_le _) (Below.refl 0 _)).size); have nn_ := Aside0.mk hn; clear HB NV KPX BK5 BK9; have HB := n0_; have NV := n1_; have KPX := n2_; clear n0_ n1_ n2_; have BK5 := n5_; have BK9 := nn_; clear n5_ nn_ hn ho hb; (try clear x5_0); have x5_0 := (qm_ BK5.out 0).trans rfl; (try clear x9_0 x9_1 x9_2 x9_3); have x9_0 := (qm_ BK9.out 0).trans rfl; have x9_1 := (qm_ BK9.out 1).trans rfl; have x9_2 := (qm_ BK9.out 2).trans rfl; have x9_3 := (qm_ BK9.out 3).trans rfl) | ((with_reducible refine qs_ (f := 40) rfl ?_); refine goesL_ (some 40) rfl rfl Tryd.func40 (by kernel_rfl) rfl #[.pointer (some ⟨g, 0, none⟩), .agg #[.int .i64 (qj_ l i).f0, .int .i64 (qj_ l i).f1, .int .i64 (qj_ l i).f2, .int .i64 (qj_ l i).f3]] rfl (by (try simp only [List.map_toArray, List.map_cons, List.map_nil]); first | done | rfl) ?_; refine (add2.calls B g a b c ⟨(qj_ l i).f0, (qj_ l i).f1, (qj_ l i).f2, (qj_ l i).f3⟩ ns _ _ _ _ NV.out H1.out).mono ?_; rintro e w4 ⟨vn1, rfl, hnv, hb, hkp⟩; refine ⟨_, rfl, ?_⟩; have n0_ := Aside0.mk (HB.out.trans hb); have n1_ := Aside0.mk hnv; have n2_ := Aside0.mk (KPX.out.trans hkp); have n5_ := Aside0.mk (hkp.blk BK5.out (blk_ne BK5.out NV.out.blk (by decide)) (Kd.R_ne NV.out.nd BK5.out (by decide))); have n9_ := Aside0.mk (hkp.blk BK9.out (blk_ne BK9.out NV.out.blk (by decide)) NU9.out); have nu_ := Aside0.mk (hkp.ne (qB_ BK9.out) NU9.out); clear HB NV KPX BK5 BK9 NU9; have HB := n0_; have NV := n1_; have KPX := n2_; clear n0_ n1_ n2_; have BK5 := n5_; have BK9 := n9_; have NU9 := nu_; clear n5_ n9_ nu_ hnv hb hkp; (try clear x5_0); have x5_0 := (qm_ BK5.out 0).trans rfl; (try clear x9_0 x9_1 x9_2 x9_3); have x9_0 := (qm_ BK9.out 0).trans rfl; have x9_1 := (qm_ BK9.out 1).trans rfl; have x9_2 := (qm_ BK9.out 2).trans rfl; have x9_3 := (qm_ BK9.out 3).trans rfl) | fail)
      go_ret
      first | exact ⟨_, rfl, NV.out, HB.out, KPX.out⟩ | exact ⟨rfl, _, NV.out, HB.out, KPX.out⟩
    ·rw [if_neg c2] at h
     have c2b : decide ((qj_ l i).f0 < 5) = false := decide_eq_false c2
     obtain ⟨⟨m1, n1⟩, h1, h2⟩ := Option.bind_eq_some_iff.mp h
     obtain ⟨⟨m2, n2⟩, h2, h3⟩ := Option.bind_eq_some_iff.mp h2
     have H1 := Aside0.mk h1
     have H2 := Aside0.mk h2
     cases neg with
     | true =>
      rw [if_pos rfl] at h3
      have H3 := Aside0.mk h3
      clear h h1 h2 h3 c1
      go_enter Tryd.func26, Tryd.ntmps26
      go_wp2_with (first | ((with_reducible refine gate_dst (N := 5) rfl ?_); refine qE_ ?hg (N := 5) ?hd (cs := #[.slice (some ad) l.length c0]) (t := 24) ?hr ?_; (case hd => rfl); (case hg => rfl); (case hr => first | kernel_rfl | (go_simp; done) | (go_simp; rfl)); intro g5 hg wn5 hbox hb; have BK5 := Aside0.mk hbox; replace HB := Aside0.mk (below_low HB.out (Nv.size NV.out) hb); replace NV := Aside0.mk (Nv.below NV.out hb); replace KPX := Aside0.mk (KPX.out.below hb); clear hb hbox hg; have x5_0 := (qm_ BK5.out 0).trans rfl; obtain ⟨xx0, xx1, xx2, xx3⟩ := HX.out _ HB.out) | ((with_reducible refine gate_dst (N := 9) rfl ?_); refine qE_ ?hg (N := 9) ?hd (cs := #[.int .i64 0, .int .i64 0, .int .i64 0, .int .i64 0]) (t := 47) ?hr ?_; (case hd => rfl); (case hg => rfl); (case hr => first | kernel_rfl | (go_simp; done) | (go_simp; rfl)); intro g9 hg wn9 hbox hb; have NE59 : Aside0 (g5 ≠ g9) := Aside0.mk (by rw [hg]; exact Nat.ne_of_lt (qB_ BK5.out)); have GN9 : Aside0 (g ≠ g9) := Aside0.mk (by rw [hg]; exact Nat.ne_of_lt (qB_ NV.out.blk)); have GE9 : Aside0 (B ≤ g9) := Aside0.mk (by rw [hg]; exact Nv.size NV.out); have KW9 : Aside0 (w.heap.size ≤ g9) := Aside0.mk (by rw [hg]; exact KPX.out.size); have NU9 := Aside0.mk (show some g9 ≠ Value.ownBlock _ from fun e_ => by have h_ := Kd.R_lt NV.out.nd g9 e_.symm; rw [hg] at h_; exact Nat.lt_irrefl _ h_); have BK9 := Aside0.mk hbox; have n5_ := Aside0.mk (qy_ BK5.out hb); replace HB := Aside0.mk (below_low HB.out (Nv.size NV.out) hb); replace NV := Aside0.mk (Nv.below NV.out hb); replace KPX := Aside0.mk (KPX.out.below hb); clear BK5; have BK5 := n5_; clear n5_ hb hbox hg) | ((with_reducible refine gate_storeV (ty := 47) (x := .tmp 9) (y := .tmp 18) rfl ?_); refine store_eventV rfl 47 (.tmp 9) (.tmp 18) rfl g9 #[.int .i64 (qj_ l i).f0, .int .i64 (qj_ l i).f1, .int .i64 (qj_ l i).f2, .int .i64 (qj_ l i).f3] rfl rfl 47 _ BK9.out (by kernel_rfl) rfl (by simp [Value.oneCell']) ?_; intro ws9 hn ho hb; have n5_ := Aside0.mk ((ho _ NE59.out).trans BK5.out); have n0_ := Aside0.mk (hb _ _ GE9.out HB.out); have n1_ := Aside0.mk (Nv.far NV.out GN9.out NU9.out ho); have n2_ := Aside0.mk (KPX.out.far KW9.out ho (hb 0 _ (Nat.zero_le _) (Below.refl 0 _)).size); have nn_ := Aside0.mk hn; clear HB NV KPX BK5 BK9; have HB := n0_; have NV := n1_; have KPX := n2_; clear n0_ n1_ n2_; have BK5 := n5_; have BK9 := nn_; clear n5_ nn_ hn ho hb; (try clear x5_0); have x5_0 := (qm_ BK5.out 0).trans rfl; (try clear x9_0 x9_1 x9_2 x9_3); have x9_0 := (qm_ BK9.out 0).trans rfl; have x9_1 := (qm_ BK9.out 1).trans rfl; have x9_2 := (qm_ BK9.out 2).trans rfl; have x9_3 := (qm_ BK9.out 3).trans rfl) | ((with_reducible refine qs_ (f := 26) rfl ?_); refine goesL_ (some 57) rfl rfl Tryd.func26 (by kernel_rfl) rfl #[.pointer (some ⟨g, 0, none⟩), .agg #[.slice (some ad) l.length c0], .int .i64 (qj_ l i).f2, .bool true] rfl (by (try simp only [List.map_toArray, List.map_cons, List.map_nil]); first | done | rfl) ?_; refine (ih ((qj_ l i).f2) true ns _ _ _ _ NV.out (fun W hW => HP.out W (HB.out.trans hW)) H1.out).mono ?_; rintro e w4 ⟨vn1, rfl, hnv, hb, hkp⟩; refine ⟨_, rfl, ?_⟩; have n0_ := Aside0.mk (HB.out.trans hb); have n1_ := Aside0.mk hnv; have n2_ := Aside0.mk (KPX.out.trans hkp); have n5_ := Aside0.mk (hkp.blk BK5.out (blk_ne BK5.out NV.out.blk (by decide)) (Kd.R_ne NV.out.nd BK5.out (by decide))); have n9_ := Aside0.mk (hkp.blk BK9.out (blk_ne BK9.out NV.out.blk (by decide)) NU9.out); have nu_ := Aside0.mk (hkp.ne (qB_ BK9.out) NU9.out); clear HB NV KPX BK5 BK9 NU9; have HB := n0_; have NV := n1_; have KPX := n2_; clear n0_ n1_ n2_; have BK5 := n5_; have BK9 := n9_; have NU9 := nu_; clear n5_ n9_ nu_ hnv hb hkp; (try clear x5_0); have x5_0 := (qm_ BK5.out 0).trans rfl; (try clear x9_0 x9_1 x9_2 x9_3); have x9_0 := (qm_ BK9.out 0).trans rfl; have x9_1 := (qm_ BK9.out 1).trans rfl; have x9_2 := (qm_ BK9.out 2).trans rfl; have x9_3 := (qm_ BK9.out 3).trans rfl) | ((with_reducible refine qs_ (f := 26) rfl ?_); refine goesL_ (some 63) rfl rfl Tryd.func26 (by kernel_rfl) rfl #[.pointer (some ⟨g, 0, none⟩), .agg #[.slice (some ad) l.length c0], .int .i64 (qj_ l i).f3, .bool true] rfl (by (try simp only [List.map_toArray, List.map_cons, List.map_nil]); first | done | rfl) ?_; refine (ih ((qj_ l i).f3) true n1 _ _ _ _ NV.out (fun W hW => HP.out W (HB.out.trans hW)) H2.out).mono ?_; rintro e w4 ⟨vn1, rfl, hnv, hb, hkp⟩; refine ⟨_, rfl, ?_⟩; have n0_ := Aside0.mk (HB.out.trans hb); have n1_ := Aside0.mk hnv; have n2_ := Aside0.mk (KPX.out.trans hkp); have n5_ := Aside0.mk (hkp.blk BK5.out (blk_ne BK5.out NV.out.blk (by decide)) (Kd.R_ne NV.out.nd BK5.out (by decide))); have n9_ := Aside0.mk (hkp.blk BK9.out (blk_ne BK9.out NV.out.blk (by decide)) NU9.out); have nu_ := Aside0.mk (hkp.ne (qB_ BK9.out) NU9.out); clear HB NV KPX BK5 BK9 NU9; have HB := n0_; have NV := n1_; have KPX := n2_; clear n0_ n1_ n2_; have BK5 := n5_; have BK9 := n9_; have NU9 := nu_; clear n5_ n9_ nu_ hnv hb hkp; (try clear x5_0); have x5_0 := (qm_ BK5.out 0).trans rfl; (try clear x9_0 x9_1 x9_2 x9_3); have x9_0 := (qm_ BK9.out 0).trans rfl; have x9_1 := (qm_ BK9.out 1).trans rfl; have x9_2 := (qm_ BK9.out 2).trans rfl; have x9_3 := (qm_ BK9.out 3).trans rfl) | ((with_reducible refine qs_ (f := 40) rfl ?_); refine goesL_ (some 74) rfl rfl Tryd.func40 (by kernel_rfl) rfl #[.pointer (some ⟨g, 0, none⟩), .agg #[.int .i64 (wrap64 (13 - (qj_ l i).f0)), .int .i64 0, .int .i64 m1, .int .i64 m2]] rfl (by (try simp only [List.map_toArray, List.map_cons, List.map_nil]); first | done | rfl) ?_; refine (add2.calls B g a b c ⟨(wrap64 (13 - (qj_ l i).f0)), 0, m1, m2⟩ n2 _ _ _ _ NV.out H3.out).mono ?_; rintro e w4 ⟨vn1, rfl, hnv, hb, hkp⟩; refine ⟨_, rfl, ?_⟩; have n0_ := Aside0.mk (HB.out.trans hb); have n1_ := Aside0.mk hnv; have n2_ := Aside0.mk (KPX.out.trans hkp); have n5_ := Aside0.mk (hkp.blk BK5.out (blk_ne BK5.out NV.out.blk (by decide)) (Kd.R_ne NV.out.nd BK5.out (by decide))); have n9_ := Aside0.mk (hkp.blk BK9.out (blk_ne BK9.out NV.out.blk (by decide)) NU9.out); have nu_ := Aside0.mk (hkp.ne (qB_ BK9.out) NU9.out); clear HB NV KPX BK5 BK9 NU9; have HB := n0_; have NV := n1_; have KPX := n2_; clear n0_ n1_ n2_; have BK5 := n5_; have BK9 := n9_; have NU9 := nu_; clear n5_ n9_ nu_ hnv hb hkp; (try clear x5_0); have x5_0 := (qm_ BK5.out 0).trans rfl; (try clear x9_0 x9_1 x9_2 x9_3); have x9_0 := (qm_ BK9.out 0).trans rfl; have x9_1 := (qm_ BK9.out 1).trans rfl; have x9_2 := (qm_ BK9.out 2).trans rfl; have x9_3 := (qm_ BK9.out 3).trans rfl) | fail)
      go_ret
      first | exact ⟨_, rfl, NV.out, HB.out, KPX.out⟩ | exact ⟨rfl, _, NV.out, HB.out, KPX.out⟩
     | false =>
      rw [if_neg (show ¬ (false = true) by decide)] at h3
      have H3 := Aside0.mk h3
      clear h h1 h2 h3 c1
      go_enter Tryd.func26, Tryd.ntmps26
      go_wp2_with (first | ((with_reducible refine gate_dst (N := 5) rfl ?_); refine qE_ ?hg (N := 5) ?hd (cs := #[.slice (some ad) l.length c0]) (t := 24) ?hr ?_; (case hd => rfl); (case hg => rfl); (case hr => first | kernel_rfl | (go_simp; done) | (go_simp; rfl)); intro g5 hg wn5 hbox hb; have BK5 := Aside0.mk hbox; replace HB := Aside0.mk (below_low HB.out (Nv.size NV.out) hb); replace NV := Aside0.mk (Nv.below NV.out hb); replace KPX := Aside0.mk (KPX.out.below hb); clear hb hbox hg; have x5_0 := (qm_ BK5.out 0).trans rfl; obtain ⟨xx0, xx1, xx2, xx3⟩ := HX.out _ HB.out) | ((with_reducible refine gate_dst (N := 9) rfl ?_); refine qE_ ?hg (N := 9) ?hd (cs := #[.int .i64 0, .int .i64 0, .int .i64 0, .int .i64 0]) (t := 47) ?hr ?_; (case hd => rfl); (case hg => rfl); (case hr => first | kernel_rfl | (go_simp; done) | (go_simp; rfl)); intro g9 hg wn9 hbox hb; have NE59 : Aside0 (g5 ≠ g9) := Aside0.mk (by rw [hg]; exact Nat.ne_of_lt (qB_ BK5.out)); have GN9 : Aside0 (g ≠ g9) := Aside0.mk (by rw [hg]; exact Nat.ne_of_lt (qB_ NV.out.blk)); have GE9 : Aside0 (B ≤ g9) := Aside0.mk (by rw [hg]; exact Nv.size NV.out); have KW9 : Aside0 (w.heap.size ≤ g9) := Aside0.mk (by rw [hg]; exact KPX.out.size); have NU9 := Aside0.mk (show some g9 ≠ Value.ownBlock _ from fun e_ => by have h_ := Kd.R_lt NV.out.nd g9 e_.symm; rw [hg] at h_; exact Nat.lt_irrefl _ h_); have BK9 := Aside0.mk hbox; have n5_ := Aside0.mk (qy_ BK5.out hb); replace HB := Aside0.mk (below_low HB.out (Nv.size NV.out) hb); replace NV := Aside0.mk (Nv.below NV.out hb); replace KPX := Aside0.mk (KPX.out.below hb); clear BK5; have BK5 := n5_; clear n5_ hb hbox hg) | ((with_reducible refine gate_storeV (ty := 47) (x := .tmp 9) (y := .tmp 18) rfl ?_); refine store_eventV rfl 47 (.tmp 9) (.tmp 18) rfl g9 #[.int .i64 (qj_ l i).f0, .int .i64 (qj_ l i).f1, .int .i64 (qj_ l i).f2, .int .i64 (qj_ l i).f3] rfl rfl 47 _ BK9.out (by kernel_rfl) rfl (by simp [Value.oneCell']) ?_; intro ws9 hn ho hb; have n5_ := Aside0.mk ((ho _ NE59.out).trans BK5.out); have n0_ := Aside0.mk (hb _ _ GE9.out HB.out); have n1_ := Aside0.mk (Nv.far NV.out GN9.out NU9.out ho); have n2_ := Aside0.mk (KPX.out.far KW9.out ho (hb 0 _ (Nat.zero_le _) (Below.refl 0 _)).size); have nn_ := Aside0.mk hn; clear HB NV KPX BK5 BK9; have HB := n0_; have NV := n1_; have KPX := n2_; clear n0_ n1_ n2_; have BK5 := n5_; have BK9 := nn_; clear n5_ nn_ hn ho hb; (try clear x5_0); have x5_0 := (qm_ BK5.out 0).trans rfl; (try clear x9_0 x9_1 x9_2 x9_3); have x9_0 := (qm_ BK9.out 0).trans rfl; have x9_1 := (qm_ BK9.out 1).trans rfl; have x9_2 := (qm_ BK9.out 2).trans rfl; have x9_3 := (qm_ BK9.out 3).trans rfl) | ((with_reducible refine qs_ (f := 26) rfl ?_); refine goesL_ (some 57) rfl rfl Tryd.func26 (by kernel_rfl) rfl #[.pointer (some ⟨g, 0, none⟩), .agg #[.slice (some ad) l.length c0], .int .i64 (qj_ l i).f2, .bool false] rfl (by (try simp only [List.map_toArray, List.map_cons, List.map_nil]); first | done | rfl) ?_; refine (ih ((qj_ l i).f2) false ns _ _ _ _ NV.out (fun W hW => HP.out W (HB.out.trans hW)) H1.out).mono ?_; rintro e w4 ⟨vn1, rfl, hnv, hb, hkp⟩; refine ⟨_, rfl, ?_⟩; have n0_ := Aside0.mk (HB.out.trans hb); have n1_ := Aside0.mk hnv; have n2_ := Aside0.mk (KPX.out.trans hkp); have n5_ := Aside0.mk (hkp.blk BK5.out (blk_ne BK5.out NV.out.blk (by decide)) (Kd.R_ne NV.out.nd BK5.out (by decide))); have n9_ := Aside0.mk (hkp.blk BK9.out (blk_ne BK9.out NV.out.blk (by decide)) NU9.out); have nu_ := Aside0.mk (hkp.ne (qB_ BK9.out) NU9.out); clear HB NV KPX BK5 BK9 NU9; have HB := n0_; have NV := n1_; have KPX := n2_; clear n0_ n1_ n2_; have BK5 := n5_; have BK9 := n9_; have NU9 := nu_; clear n5_ n9_ nu_ hnv hb hkp; (try clear x5_0); have x5_0 := (qm_ BK5.out 0).trans rfl; (try clear x9_0 x9_1 x9_2 x9_3); have x9_0 := (qm_ BK9.out 0).trans rfl; have x9_1 := (qm_ BK9.out 1).trans rfl; have x9_2 := (qm_ BK9.out 2).trans rfl; have x9_3 := (qm_ BK9.out 3).trans rfl) | ((with_reducible refine qs_ (f := 26) rfl ?_); refine goesL_ (some 63) rfl rfl Tryd.func26 (by kernel_rfl) rfl #[.pointer (some ⟨g, 0, none⟩), .agg #[.slice (some ad) l.length c0], .int .i64 (qj_ l i).f3, .bool false] rfl (by (try simp only [List.map_toArray, List.map_cons, List.map_nil]); first | done | rfl) ?_; refine (ih ((qj_ l i).f3) false n1 _ _ _ _ NV.out (fun W hW => HP.out W (HB.out.trans hW)) H2.out).mono ?_; rintro e w4 ⟨vn1, rfl, hnv, hb, hkp⟩; refine ⟨_, rfl, ?_⟩; have n0_ := Aside0.mk (HB.out.trans hb); have n1_ := Aside0.mk hnv; have n2_ := Aside0.mk (KPX.out.trans hkp); have n5_ := Aside0.mk (hkp.blk BK5.out (blk_ne BK5.out NV.out.blk (by decide)) (Kd.R_ne NV.out.nd BK5.out (by decide))); have n9_ := Aside0.mk (hkp.blk BK9.out (blk_ne BK9.out NV.out.blk (by decide)) NU9.out); have nu_ := Aside0.mk (hkp.ne (qB_ BK9.out) NU9.out); clear HB NV KPX BK5 BK9 NU9; have HB := n0_; have NV := n1_; have KPX := n2_; clear n0_ n1_ n2_; have BK5 := n5_; have BK9 := n9_; have NU9 := nu_; clear n5_ n9_ nu_ hnv hb hkp; (try clear x5_0); have x5_0 := (qm_ BK5.out 0).trans rfl; (try clear x9_0 x9_1 x9_2 x9_3); have x9_0 := (qm_ BK9.out 0).trans rfl; have x9_1 := (qm_ BK9.out 1).trans rfl; have x9_2 := (qm_ BK9.out 2).trans rfl; have x9_3 := (qm_ BK9.out 3).trans rfl) | ((with_reducible refine qs_ (f := 40) rfl ?_); refine goesL_ (some 74) rfl rfl Tryd.func40 (by kernel_rfl) rfl #[.pointer (some ⟨g, 0, none⟩), .agg #[.int .i64 (qj_ l i).f0, .int .i64 0, .int .i64 m1, .int .i64 m2]] rfl (by (try simp only [List.map_toArray, List.map_cons, List.map_nil]); first | done | rfl) ?_; refine (add2.calls B g a b c ⟨(qj_ l i).f0, 0, m1, m2⟩ n2 _ _ _ _ NV.out H3.out).mono ?_; rintro e w4 ⟨vn1, rfl, hnv, hb, hkp⟩; refine ⟨_, rfl, ?_⟩; have n0_ := Aside0.mk (HB.out.trans hb); have n1_ := Aside0.mk hnv; have n2_ := Aside0.mk (KPX.out.trans hkp); have n5_ := Aside0.mk (hkp.blk BK5.out (blk_ne BK5.out NV.out.blk (by decide)) (Kd.R_ne NV.out.nd BK5.out (by decide))); have n9_ := Aside0.mk (hkp.blk BK9.out (blk_ne BK9.out NV.out.blk (by decide)) NU9.out); have nu_ := Aside0.mk (hkp.ne (qB_ BK9.out) NU9.out); clear HB NV KPX BK5 BK9 NU9; have HB := n0_; have NV := n1_; have KPX := n2_; clear n0_ n1_ n2_; have BK5 := n5_; have BK9 := n9_; have NU9 := nu_; clear n5_ n9_ nu_ hnv hb hkp; (try clear x5_0); have x5_0 := (qm_ BK5.out 0).trans rfl; (try clear x9_0 x9_1 x9_2 x9_3); have x9_0 := (qm_ BK9.out 0).trans rfl; have x9_1 := (qm_ BK9.out 1).trans rfl; have x9_2 := (qm_ BK9.out 2).trans rfl; have x9_3 := (qm_ BK9.out 3).trans rfl) | fail)
      go_ret
      first | exact ⟨_, rfl, NV.out, HB.out, KPX.out⟩ | exact ⟨rfl, _, NV.out, HB.out, KPX.out⟩
  ·rw [if_neg q] at h
   cases h
set_option maxHeartbeats 8000000 in
set_option maxRecDepth 100000 in
theorem clip.calls (A : Option Addr) (n c : Nat) (hc : n ≤ c) (hn : n ≤ 1000000) (w : World) :
  Calls Tryd.prog 27 #[.slice A n c] w fun e w' => e = .returned (.slice A n n) ∧ Below w.heap.size w w' := by
 have hu22 := Tryd.underlying22
 have HB := Aside0.mk (Below.refl w.heap.size w)
 have h1 : (n : Int) ≤ (c : Int) := by omega
 have h0 : (0 : Int) ≤ (n : Int) := by omega
 have h2 : (n : Int) ≤ (n : Int) := Int.le_refl _
 go_enter Tryd.func27, Tryd.ntmps27
 go_wp2_with fail
 trace_state
 go_ret
 exact ⟨by first | rfl | simp, HB.out⟩
end Go.Proofs.YtblkkhddefnkpaaDoor.PPo
