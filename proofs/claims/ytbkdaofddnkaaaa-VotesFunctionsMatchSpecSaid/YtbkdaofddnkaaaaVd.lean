import Derived.Test.YtbkdaofddnkaaaaPVox4
import Derived.Outline
import Derived.RegionTactic
import Derived.ChangeAlike
import Derived.Test.YtbkdaofddnkaaaaPVox1
namespace Go.Proofs.Ytbkdaofddnkaaaa.PVo
open Go.RowKit Go.Proofs.YtbkdaofddnkaaaaW.PrintWords Go.Proofs.YtbkdaofddnkaaaaW.PrintLast Go.Proofs.YtbkdaofddnkaaaaW.PrintMore
attribute [local go_sem] max2_int min2_int max_two min_two max_three min_three max_four min_four
attribute [local go_sem high] eqA25
set_option linter.unusedVariables false
set_option linter.unusedSimpArgs false

theorem run_loadVar_part {P : Program} (w : World) (g off n : Nat) (t ty : TypeId) (cs : Array Value) (fr : Nat × Nat) (d : TypeDesc) (hg : w.heap[g]? = some (.cells cs t fr))
    (hu : P.underlying ty = some d) (hd : (match d with | .struct _ | .array _ _ => true | _ => false) = true) (hi : (P.info? ty).map (·.size) = some n) (hn : off + n ≤ cs.size) :
    (loadVar ty ⟨g, off, none⟩).run P w = .ok (.agg (cs.extract off (off + n))) w := by
  have e : (cs.extract off (off + n)).toList.length = n := by simp; omega
  have hl : (loadCells ⟨g, off, none⟩ (cs.extract off (off + n)).toList.length).run P w = .ok (cs.extract off (off + n)).toList.toArray w :=
    run_loadCells_list (P := P) w ⟨g, off, none⟩ (cs.extract off (off + n)).toList (fun j v hv => by
      have hadd : (⟨g, off, none⟩ : Addr).add j = ⟨g, off + j, none⟩ := by unfold Addr.add; split <;> simp_all
      rw [hadd, cell_of_row w g _ cs t fr hg]
      have hj : j < n := by have := (List.getElem?_eq_some_iff.1 hv).1; omega
      rw [Array.getElem?_toList, Array.getElem?_extract_of_lt (by omega)] at hv
      rw [Array.getElem?_eq_getElem (by omega)]
      exact hv)
  rw [e] at hl
  cases hq : P.info? ty with
  | none => simp [hq] at hi
  | some i =>
    have hs : i.size = n := by simpa [hq] using hi
    have hagg : (isAgg ty).run P w = .ok true w := by
      unfold isAgg
      rw [Sem.run_bind, run_underlying hu w]
      cases d <;> simp_all
    simp only [Array.toArray_toList] at hl
    simp [loadVar, Sem.run_bind, hagg, sizeOf, typeInfo, hq, hs, hl]
def bal (la co : List Int) : Array Value := ((la ++ co).map (Value.int .i64)).toArray
def co8 (co : List Int) : Array Value := (co.map (Value.int .i64)).toArray
def dimV (x : Int) : Int := wrap64 (wrap64 (Int.tdiv (if 0 < x then 0 else x) 2) * 2)
def z8 : List Int := [0, 0, 0, 0, 0, 0, 0, 0]
mutual
def votes_count.l0 : Nat → List S35 → List Bool → Int → Int → Int → List Int → List Int → Option (List Int × List Int × Int × Int)
  | 0, _, _, _, _, _, _, _ => none
  | k + 1, l, tr, at_, r, next, la, co => if r ≤ at_ then (if 0 ≤ r then (if r < (tr.length : Int) then (if rdOf false tr r = true then votes_count.l2 k l tr at_ r next la co else votes_count.l2 k l tr at_ r next la (co.map dimV)) else none) else none) else some (la, co, 0, 0)
def votes_count.l2 : Nat → List S35 → List Bool → Int → Int → Int → List Int → List Int → Option (List Int × List Int × Int × Int)
  | 0, _, _, _, _, _, _, _ => none
  | k + 1, l, tr, at_, r, next, la, co => if next < (l.length : Int) then (if 0 ≤ next then (if (rd_T35 l next).f1 = r then (if 0 ≤ (rd_T35 l next).f0 ∧ (rd_T35 l next).f0 < 8 then votes_count.l2 k l tr at_ r (wrap64 (next + 1)) (la.set (rd_T35 l next).f0.toNat (rd_T35 l next).f2) (co.set (rd_T35 l next).f0.toNat (rd_T35 l next).f2) else none) else votes_count.l0 k l tr at_ (wrap64 (r + 1)) next la co) else none) else votes_count.l0 k l tr at_ (wrap64 (r + 1)) next la co
end
def votes_count.f (k : Nat) (l : List S35) (tr : List Bool) (at_ : Int) : Option (List Int × List Int × Int × Int) :=
  (votes_Validate.f k l tr).bind fun v => if (v.1 == 0 && (v.2 == 0)) = true then (if at_ < 0 then some (z8, z8, 3, -3) else if at_ ≥ (tr.length : Int) then some (z8, z8, 3, -3) else votes_count.l0 k l tr at_ 0 0 z8 z8) else some (z8, z8, v.1, v.2)

theorem wpList_load_part {P : Program} {ops : Array Oper} {rest : List Oper} {o : Oper} {a : Act} {w : World} {Q : Exit → Act → World → Prop} (hgd : o.guard = none) (ty : TypeId) (x : Operand) (ho : o.op = .load ty x)
    (g off n : Nat) (hx : a.eval x = .pointer (some ⟨g, off, none⟩)) (t : TypeId) (cs : Array Value) (fr : Nat × Nat) (d : TypeDesc) (hg : w.heap[g]? = some (.cells cs t fr))
    (hu : P.underlying ty = some d) (hd : (match d with | .struct _ | .array _ _ => true | _ => false) = true) (hi : (P.info? ty).map (·.size) = some n) (hn : off + n ≤ cs.size)
    (h : wpList P ops Q rest (a.put o.dst (.agg (cs.extract off (off + n)))) w) : wpList P ops Q (o :: rest) a w :=
  wpList_plain hgd fun _ hK => by
    unfold Oper.wp execOp
    simp only [ho, hx, Instr.loadAt, Instr.sureAddr, Sem.run_bind, Sem.run_pure, Result.andThen_ok, run_loadVar_part w g off n t ty cs fr d hg hu hd hi hn]
    exact hK _ _ h
theorem bal_size (la co : List Int) : (bal la co).size = la.length + co.length := by simp [bal]
theorem bal_part {la co : List Int} (h1 : la.length = 8) (h2 : co.length = 8) : (bal la co).extract 8 (8 + 8) = co8 co := by
  unfold bal co8
  apply Array.ext'
  simp only [Array.toList_extract, List.map_append, List.extract]
  rw [List.drop_left' (by simp [h1]), List.take_of_length_le (by simp [h2])]
theorem bal_first {la co : List Int} (h1 : la.length = 8) (h2 : co.length = 8) : (bal la co).extract 0 (0 + 8) = co8 la := by
  unfold bal co8
  apply Array.ext'
  simp only [Array.toList_extract, List.map_append, List.extract, List.drop_zero]
  rw [List.take_left' (by simp [h1])]
theorem bal_set1 {la co : List Int} {m : Nat} {x : Int} (h1 : la.length = 8) (hm : m < 8) : (bal la co).setIfInBounds m (.int .i64 x) = bal (la.set m x) co := by
  unfold bal
  apply Array.ext'
  simp only [Array.toList_setIfInBounds]
  rw [List.map_append, List.map_append, List.set_append_left _ _ (by simp; omega), List.map_set]
theorem bal_set2 {la co : List Int} {m : Nat} {x : Int} (h1 : la.length = 8) : (bal la co).setIfInBounds (8 + m) (.int .i64 x) = bal la (co.set m x) := by
  unfold bal
  apply Array.ext'
  simp only [Array.toList_setIfInBounds]
  rw [List.map_append, List.map_append, List.set_append_right _ _ (by simp; omega), List.map_set]
  congr 2
  simp [h1]
theorem bal_get1 {la co : List Int} {m : Nat} (h1 : la.length = 8) (hm : m < 8) : (bal la co)[m]? = some (.int .i64 (la.getD m 0)) := by
  unfold bal
  simp only [List.getElem?_toArray, List.map_append]
  rw [List.getElem?_append_left (by simp; omega), List.getElem?_map, List.getElem?_eq_getElem (show m < la.length by omega)]
  simp [List.getElem?_eq_getElem (show m < la.length by omega)]
theorem bal_get2 {la co : List Int} {m : Nat} (h1 : la.length = 8) (h2 : co.length = 8) (hm : m < 8) : (bal la co)[8 + m]? = some (.int .i64 (co.getD m 0)) := by
  unfold bal
  simp only [List.getElem?_toArray, List.map_append]
  rw [List.getElem?_append_right (by simp; omega), List.getElem?_map, show 8 + m - (List.map (Value.int .i64) la).length = m by simp [h1], List.getElem?_eq_getElem (show m < co.length by omega)]
  simp [List.getElem?_eq_getElem (show m < co.length by omega)]
theorem len8 (l : List Int) (h : l.length = 8) : ∃ a0 a1 a2 a3 a4 a5 a6 a7, l = [a0, a1, a2, a3, a4, a5, a6, a7] := by
  match l, h with
  | [a0, a1, a2, a3, a4, a5, a6, a7], _ => exact ⟨a0, a1, a2, a3, a4, a5, a6, a7, rfl⟩
theorem run_index8 {co : List Int} (h2 : co.length = 8) (m : Nat) (hm : m < 8) (W : World) : (Instr.index 67 (.agg (co8 co)) (.int .i64 (m : Int))).run Try.prog W = .ok (.int .i64 (co.getD m 0)) W := by
  have hu : Try.prog.underlying 67 = some (.array 8 3) := Try.underlying67
  have h8 : (co8 co)[m * 1]? = some (.int .i64 (co.getD m 0)) := by
    unfold co8
    simp [List.getElem?_eq_getElem (show m < co.length by omega)]
  have hp : (part 3 (co8 co) (m * 1)).run Try.prog W = .ok (.int .i64 (co.getD m 0)) W := by
    have hag : (isAgg 3).run Try.prog W = .ok false W := by kernel_rfl
    unfold part
    rw [Sem.run_bind, hag]
    simp only [Result.andThen_ok, Bool.false_eq_true, if_false, h8, Sem.run_pure]
  have hs : (sizeOf 3).run Try.prog W = .ok 1 W := by kernel_rfl
  unfold Instr.index
  simp only [asIntOf, Sem.run_bind, Sem.run_pure, Result.andThen_ok, run_underlying hu W]
  rw [if_pos (by omega)]
  simp only [Sem.run_bind, hs, Result.andThen_ok, Int.toNat_natCast]
  exact hp
def mixd (co : List Int) (m : Nat) : List Int := (co.take m).map dimV ++ co.drop m
theorem mixd_len (co : List Int) (m : Nat) : (mixd co m).length = co.length := by simp [mixd]; omega
theorem mixd_set {co : List Int} {m : Nat} (h : m < co.length) : (mixd co m).set m (dimV (co.getD m 0)) = mixd co (m + 1) := by
  unfold mixd
  rw [List.set_append_right _ _ (by simp; omega), List.take_succ_eq_append_getElem h, List.map_append, List.append_assoc]
  congr 1
  rw [show m - (List.map dimV (List.take m co)).length = 0 by simp; omega, List.drop_eq_getElem_cons h, List.set_cons_zero]
  simp [List.getElem?_eq_getElem h]
theorem mixd_all {co : List Int} {m : Nat} (h : co.length ≤ m) : mixd co m = co.map dimV := by
  unfold mixd
  rw [List.take_of_length_le h, List.drop_eq_nil_of_le h, List.append_nil]
set_option maxHeartbeats 8000000 in
set_option maxRecDepth 100000 in
theorem votes_count.bad (k : Nat) (A0 : Option Addr) (c0 : Nat) (l0 : List S35) (A1 : Option Addr) (c1 : Nat) (l1 : List Bool) (a2 : Int) (w : World)
    (hr0 : Kd.C k35 w A0 l0.length l0) (hc0 : l0.length ≤ c0) (hr1 : Kd.C Kd.bool w A1 l1.length l1) (hc1 : l1.length ≤ c1) (t1 t2 : Int) (hv : votes_Validate.f k l0 l1 = some (t1, t2)) (q1 : ¬ (t1 == 0 && (t2 == 0)) = true) :
    Calls Try.prog 33 #[.slice A0 l0.length c0, .slice A1 l1.length c1, .int .i64 a2] w fun e w' => e = .returned (.tuple #[.agg (bal z8 z8), .agg #[.int .i64 t1, .int .i64 t2]]) ∧ Below w.heap.size w w' := by
  have hu25 := Try.underlying25
  have hu69 := Try.underlying69
  have hu67 := Try.underlying67
  have HR0 := Aside0.mk hr0
  have HC0 := Aside0.mk hc0
  have HR1 := Aside0.mk hr1
  have HC1 := Aside0.mk hc1
  clear hr0 hc0 hr1 hc1
  have HB := Aside0.mk (Below.refl w.heap.size w)
  have A2 := Aside0.mk hv
  clear hv
  have BZ : bal z8 z8 = #[.int .i64 0, .int .i64 0, .int .i64 0, .int .i64 0, .int .i64 0, .int .i64 0, .int .i64 0, .int .i64 0, .int .i64 0, .int .i64 0, .int .i64 0, .int .i64 0, .int .i64 0, .int .i64 0, .int .i64 0, .int .i64 0] := rfl
  have q2 : (t1 == 0 && (t2 == 0)) = false := by simpa using q1
  have q3 : (!(t1 == 0) || (!(t2 == 0))) = true := by have h_ := congrArg not q2; simpa [Bool.not_and] using h_
  clear q1
  go_enter Try.func33, Try.ntmps33
  go_wp2_with (first
    | ((with_reducible refine gate_dst (N := 6) rfl ?_); refine box_event ?hg (N := 6) ?hd (cs := bal z8 z8) (t := 69) ?hr ?_; (case hd => rfl); (case hg => rfl); (case hr => first | (go_simp; rfl) | kernel_rfl); intro g6 hg w1 hbox hb; have n0_ := Aside0.mk (below_step HB.out hb); have BK6 := Aside0.mk hbox; have GE6 : Aside0 (w.heap.size ≤ g6) := Aside0.mk (by rw [hg]; exact Nat.le_refl _); clear HB; have HB := n0_; clear n0_ hb hbox hg)
    | ((with_reducible refine gate_dst (N := 7) rfl ?_); refine box_event ?hg (N := 7) ?hd (cs := #[.int .i64 0, .int .i64 0]) (t := 25) ?hr ?_; (case hd => rfl); (case hg => rfl); (case hr => first | (go_simp; rfl) | kernel_rfl); intro g7 hg w2 hbox hb; have NE76 : Aside0 (g7 ≠ g6) := Aside0.mk (by rw [hg]; exact Nat.ne_of_gt (blk_lt BK6.out)); have GE7 : Aside0 (w.heap.size ≤ g7) := Aside0.mk (by rw [hg]; exact HB.out.size); have n0_ := Aside0.mk (below_step HB.out hb); have n1_ := Aside0.mk (blk_below BK6.out hb); have BK7 := Aside0.mk hbox; clear HB BK6; have HB := n0_; have BK6 := n1_; clear n0_ n1_ hb hbox hg)
    | ((with_reducible refine gate_dst (N := 8) rfl ?_); refine box_event ?hg (N := 8) ?hd (cs := bal z8 z8) (t := 69) ?hr ?_; (case hd => rfl); (case hg => rfl); (case hr => first | (go_simp; rfl) | kernel_rfl); intro g8 hg w3 hbox hb; have NE86 : Aside0 (g8 ≠ g6) := Aside0.mk (by rw [hg]; exact Nat.ne_of_gt (blk_lt BK6.out)); have NE87 : Aside0 (g8 ≠ g7) := Aside0.mk (by rw [hg]; exact Nat.ne_of_gt (blk_lt BK7.out)); have GE8 : Aside0 (w.heap.size ≤ g8) := Aside0.mk (by rw [hg]; exact HB.out.size); have n0_ := Aside0.mk (below_step HB.out hb); have n1_ := Aside0.mk (blk_below BK6.out hb); have n2_ := Aside0.mk (blk_below BK7.out hb); have BK8 := Aside0.mk hbox; clear HB BK6 BK7; have HB := n0_; have BK6 := n1_; have BK7 := n2_; clear n0_ n1_ n2_ hb hbox hg)
    | ((with_reducible refine gate_callee (f := 18) rfl ?_); refine goesL_ (some 17) rfl rfl Try.func18 (by kernel_rfl) rfl #[.slice A0 l0.length c0, .slice A1 l1.length c1] rfl (by (try simp only [List.map_toArray, List.map_cons, List.map_nil]); first | done | rfl) ?_; (refine (votes_Validate.calls k _ _ l0 _ _ l1 t1 t2 _ (Kd.C_below HR0.out HB.out) HC0.out (Kd.C_below HR1.out HB.out) HC1.out A2.out).mono ?_); rintro e w4 ⟨rfl, hb⟩; refine ⟨_, rfl, ?_⟩; have n0_ := Aside0.mk (below_step HB.out hb); have n1_ := Aside0.mk (blk_below BK6.out hb); have n2_ := Aside0.mk (blk_below BK7.out hb); have n3_ := Aside0.mk (blk_below BK8.out hb); clear HB BK6 BK7 BK8; have HB := n0_; have BK6 := n1_; have BK7 := n2_; have BK8 := n3_; clear n0_ n1_ n2_ n3_ hb)
    | ((with_reducible refine gate_dst (N := 9) rfl ?_); refine box_event ?hg (N := 9) ?hd (cs := #[.int .i64 0, .int .i64 0]) (t := 25) ?hr ?_; (case hd => rfl); (case hg => rfl); (case hr => first | (go_simp; rfl) | kernel_rfl); intro g9 hg w5 hbox hb; have NE96 : Aside0 (g9 ≠ g6) := Aside0.mk (by rw [hg]; exact Nat.ne_of_gt (blk_lt BK6.out)); have NE97 : Aside0 (g9 ≠ g7) := Aside0.mk (by rw [hg]; exact Nat.ne_of_gt (blk_lt BK7.out)); have NE98 : Aside0 (g9 ≠ g8) := Aside0.mk (by rw [hg]; exact Nat.ne_of_gt (blk_lt BK8.out)); have GE9 : Aside0 (w.heap.size ≤ g9) := Aside0.mk (by rw [hg]; exact HB.out.size); have n0_ := Aside0.mk (below_step HB.out hb); have n1_ := Aside0.mk (blk_below BK6.out hb); have n2_ := Aside0.mk (blk_below BK7.out hb); have n3_ := Aside0.mk (blk_below BK8.out hb); have BK9 := Aside0.mk hbox; clear HB BK6 BK7 BK8; have HB := n0_; have BK6 := n1_; have BK7 := n2_; have BK8 := n3_; clear n0_ n1_ n2_ n3_ hb hbox hg; have hc90 := (blk_cell BK9.out 0).trans rfl; have hc91 := (blk_cell BK9.out 1).trans rfl; have hf90 := blk_frozen BK9.out 0; have hf91 := blk_frozen BK9.out 1; rw [BZ] at BK6 BK8; have uc0 : w5.cell? ⟨g8, 0, none⟩ = some (.int .i64 0) := (blk_cell BK8.out 0).trans rfl; have uc1 : w5.cell? ⟨g8, 1, none⟩ = some (.int .i64 0) := (blk_cell BK8.out 1).trans rfl; have uc2 : w5.cell? ⟨g8, 2, none⟩ = some (.int .i64 0) := (blk_cell BK8.out 2).trans rfl; have uc3 : w5.cell? ⟨g8, 3, none⟩ = some (.int .i64 0) := (blk_cell BK8.out 3).trans rfl; have uc4 : w5.cell? ⟨g8, 4, none⟩ = some (.int .i64 0) := (blk_cell BK8.out 4).trans rfl; have uc5 : w5.cell? ⟨g8, 5, none⟩ = some (.int .i64 0) := (blk_cell BK8.out 5).trans rfl; have uc6 : w5.cell? ⟨g8, 6, none⟩ = some (.int .i64 0) := (blk_cell BK8.out 6).trans rfl; have uc7 : w5.cell? ⟨g8, 7, none⟩ = some (.int .i64 0) := (blk_cell BK8.out 7).trans rfl; have uc8 : w5.cell? ⟨g8, 8, none⟩ = some (.int .i64 0) := (blk_cell BK8.out 8).trans rfl; have uc9 : w5.cell? ⟨g8, 9, none⟩ = some (.int .i64 0) := (blk_cell BK8.out 9).trans rfl; have uc10 : w5.cell? ⟨g8, 10, none⟩ = some (.int .i64 0) := (blk_cell BK8.out 10).trans rfl; have uc11 : w5.cell? ⟨g8, 11, none⟩ = some (.int .i64 0) := (blk_cell BK8.out 11).trans rfl; have uc12 : w5.cell? ⟨g8, 12, none⟩ = some (.int .i64 0) := (blk_cell BK8.out 12).trans rfl; have uc13 : w5.cell? ⟨g8, 13, none⟩ = some (.int .i64 0) := (blk_cell BK8.out 13).trans rfl; have uc14 : w5.cell? ⟨g8, 14, none⟩ = some (.int .i64 0) := (blk_cell BK8.out 14).trans rfl; have uc15 : w5.cell? ⟨g8, 15, none⟩ = some (.int .i64 0) := (blk_cell BK8.out 15).trans rfl; have uf0 := blk_frozen BK8.out 0; have uf1 := blk_frozen BK8.out 1; have uf2 := blk_frozen BK8.out 2; have uf3 := blk_frozen BK8.out 3; have uf4 := blk_frozen BK8.out 4; have uf5 := blk_frozen BK8.out 5; have uf6 := blk_frozen BK8.out 6; have uf7 := blk_frozen BK8.out 7; have uf8 := blk_frozen BK8.out 8; have uf9 := blk_frozen BK8.out 9; have uf10 := blk_frozen BK8.out 10; have uf11 := blk_frozen BK8.out 11; have uf12 := blk_frozen BK8.out 12; have uf13 := blk_frozen BK8.out 13; have uf14 := blk_frozen BK8.out 14; have uf15 := blk_frozen BK8.out 15; have vc0 : w5.cell? ⟨g6, 0, none⟩ = some (.int .i64 0) := (blk_cell BK6.out 0).trans rfl; have vc1 : w5.cell? ⟨g6, 1, none⟩ = some (.int .i64 0) := (blk_cell BK6.out 1).trans rfl; have vc2 : w5.cell? ⟨g6, 2, none⟩ = some (.int .i64 0) := (blk_cell BK6.out 2).trans rfl; have vc3 : w5.cell? ⟨g6, 3, none⟩ = some (.int .i64 0) := (blk_cell BK6.out 3).trans rfl; have vc4 : w5.cell? ⟨g6, 4, none⟩ = some (.int .i64 0) := (blk_cell BK6.out 4).trans rfl; have vc5 : w5.cell? ⟨g6, 5, none⟩ = some (.int .i64 0) := (blk_cell BK6.out 5).trans rfl; have vc6 : w5.cell? ⟨g6, 6, none⟩ = some (.int .i64 0) := (blk_cell BK6.out 6).trans rfl; have vc7 : w5.cell? ⟨g6, 7, none⟩ = some (.int .i64 0) := (blk_cell BK6.out 7).trans rfl; have vc8 : w5.cell? ⟨g6, 8, none⟩ = some (.int .i64 0) := (blk_cell BK6.out 8).trans rfl; have vc9 : w5.cell? ⟨g6, 9, none⟩ = some (.int .i64 0) := (blk_cell BK6.out 9).trans rfl; have vc10 : w5.cell? ⟨g6, 10, none⟩ = some (.int .i64 0) := (blk_cell BK6.out 10).trans rfl; have vc11 : w5.cell? ⟨g6, 11, none⟩ = some (.int .i64 0) := (blk_cell BK6.out 11).trans rfl; have vc12 : w5.cell? ⟨g6, 12, none⟩ = some (.int .i64 0) := (blk_cell BK6.out 12).trans rfl; have vc13 : w5.cell? ⟨g6, 13, none⟩ = some (.int .i64 0) := (blk_cell BK6.out 13).trans rfl; have vc14 : w5.cell? ⟨g6, 14, none⟩ = some (.int .i64 0) := (blk_cell BK6.out 14).trans rfl; have vc15 : w5.cell? ⟨g6, 15, none⟩ = some (.int .i64 0) := (blk_cell BK6.out 15).trans rfl; have vf0 := blk_frozen BK6.out 0; have vf1 := blk_frozen BK6.out 1; have vf2 := blk_frozen BK6.out 2; have vf3 := blk_frozen BK6.out 3; have vf4 := blk_frozen BK6.out 4; have vf5 := blk_frozen BK6.out 5; have vf6 := blk_frozen BK6.out 6; have vf7 := blk_frozen BK6.out 7; have vf8 := blk_frozen BK6.out 8; have vf9 := blk_frozen BK6.out 9; have vf10 := blk_frozen BK6.out 10; have vf11 := blk_frozen BK6.out 11; have vf12 := blk_frozen BK6.out 12; have vf13 := blk_frozen BK6.out 13; have vf14 := blk_frozen BK6.out 14; have vf15 := blk_frozen BK6.out 15; have xc0 : w5.cell? ⟨g7, 0, none⟩ = some (.int .i64 0) := (blk_cell BK7.out 0).trans rfl; have xc1 : w5.cell? ⟨g7, 1, none⟩ = some (.int .i64 0) := (blk_cell BK7.out 1).trans rfl; have xf0 := blk_frozen BK7.out 0; have xf1 := blk_frozen BK7.out 1; have NE98' := NE98.out; have NE89' := Ne.symm NE98'; have NE96' := NE96.out; have NE69' := Ne.symm NE96'; have NE97' := NE97.out; have NE79' := Ne.symm NE97'; have NE86' := NE86.out; have NE68' := Ne.symm NE86'; have NE87' := NE87.out; have NE78' := Ne.symm NE87'; have NE76' := NE76.out; have NE67' := Ne.symm NE76')
    | fail)
  go_region
  go_wp2
  refine bodyPost_ret (results_cc rfl _ _ g6 g7 69 25 #[.int .i64 0, .int .i64 0, .int .i64 0, .int .i64 0, .int .i64 0, .int .i64 0, .int .i64 0, .int .i64 0, .int .i64 0, .int .i64 0, .int .i64 0, .int .i64 0, .int .i64 0, .int .i64 0, .int .i64 0, .int .i64 0] #[.int .i64 t1, .int .i64 t2] (0, 0) (0, 0) _ _ rfl (by (with_reducible repeat (first | refine blk_drewN ?_ _ | refine blk_drew ?_ | refine blk_alloc ?_ _ | refine blk_far ?_ (by assumption) _)); refine blk_put (cs := #[.int .i64 0, .int .i64 0, .int .i64 0, .int .i64 0, .int .i64 0, .int .i64 0, .int .i64 0, .int .i64 0, .int .i64 0, .int .i64 0, .int .i64 0, .int .i64 0, .int .i64 0, .int .i64 0, .int .i64 0, .int .i64 0]) ?_ 15 _ rfl; (with_reducible repeat (first | refine blk_drewN ?_ _ | refine blk_drew ?_ | refine blk_alloc ?_ _ | refine blk_far ?_ (by assumption) _)); refine blk_put (cs := #[.int .i64 0, .int .i64 0, .int .i64 0, .int .i64 0, .int .i64 0, .int .i64 0, .int .i64 0, .int .i64 0, .int .i64 0, .int .i64 0, .int .i64 0, .int .i64 0, .int .i64 0, .int .i64 0, .int .i64 0, .int .i64 0]) ?_ 14 _ rfl; (with_reducible repeat (first | refine blk_drewN ?_ _ | refine blk_drew ?_ | refine blk_alloc ?_ _ | refine blk_far ?_ (by assumption) _)); refine blk_put (cs := #[.int .i64 0, .int .i64 0, .int .i64 0, .int .i64 0, .int .i64 0, .int .i64 0, .int .i64 0, .int .i64 0, .int .i64 0, .int .i64 0, .int .i64 0, .int .i64 0, .int .i64 0, .int .i64 0, .int .i64 0, .int .i64 0]) ?_ 13 _ rfl; (with_reducible repeat (first | refine blk_drewN ?_ _ | refine blk_drew ?_ | refine blk_alloc ?_ _ | refine blk_far ?_ (by assumption) _)); refine blk_put (cs := #[.int .i64 0, .int .i64 0, .int .i64 0, .int .i64 0, .int .i64 0, .int .i64 0, .int .i64 0, .int .i64 0, .int .i64 0, .int .i64 0, .int .i64 0, .int .i64 0, .int .i64 0, .int .i64 0, .int .i64 0, .int .i64 0]) ?_ 12 _ rfl; (with_reducible repeat (first | refine blk_drewN ?_ _ | refine blk_drew ?_ | refine blk_alloc ?_ _ | refine blk_far ?_ (by assumption) _)); refine blk_put (cs := #[.int .i64 0, .int .i64 0, .int .i64 0, .int .i64 0, .int .i64 0, .int .i64 0, .int .i64 0, .int .i64 0, .int .i64 0, .int .i64 0, .int .i64 0, .int .i64 0, .int .i64 0, .int .i64 0, .int .i64 0, .int .i64 0]) ?_ 11 _ rfl; (with_reducible repeat (first | refine blk_drewN ?_ _ | refine blk_drew ?_ | refine blk_alloc ?_ _ | refine blk_far ?_ (by assumption) _)); refine blk_put (cs := #[.int .i64 0, .int .i64 0, .int .i64 0, .int .i64 0, .int .i64 0, .int .i64 0, .int .i64 0, .int .i64 0, .int .i64 0, .int .i64 0, .int .i64 0, .int .i64 0, .int .i64 0, .int .i64 0, .int .i64 0, .int .i64 0]) ?_ 10 _ rfl; (with_reducible repeat (first | refine blk_drewN ?_ _ | refine blk_drew ?_ | refine blk_alloc ?_ _ | refine blk_far ?_ (by assumption) _)); refine blk_put (cs := #[.int .i64 0, .int .i64 0, .int .i64 0, .int .i64 0, .int .i64 0, .int .i64 0, .int .i64 0, .int .i64 0, .int .i64 0, .int .i64 0, .int .i64 0, .int .i64 0, .int .i64 0, .int .i64 0, .int .i64 0, .int .i64 0]) ?_ 9 _ rfl; (with_reducible repeat (first | refine blk_drewN ?_ _ | refine blk_drew ?_ | refine blk_alloc ?_ _ | refine blk_far ?_ (by assumption) _)); refine blk_put (cs := #[.int .i64 0, .int .i64 0, .int .i64 0, .int .i64 0, .int .i64 0, .int .i64 0, .int .i64 0, .int .i64 0, .int .i64 0, .int .i64 0, .int .i64 0, .int .i64 0, .int .i64 0, .int .i64 0, .int .i64 0, .int .i64 0]) ?_ 8 _ rfl; (with_reducible repeat (first | refine blk_drewN ?_ _ | refine blk_drew ?_ | refine blk_alloc ?_ _ | refine blk_far ?_ (by assumption) _)); refine blk_put (cs := #[.int .i64 0, .int .i64 0, .int .i64 0, .int .i64 0, .int .i64 0, .int .i64 0, .int .i64 0, .int .i64 0, .int .i64 0, .int .i64 0, .int .i64 0, .int .i64 0, .int .i64 0, .int .i64 0, .int .i64 0, .int .i64 0]) ?_ 7 _ rfl; (with_reducible repeat (first | refine blk_drewN ?_ _ | refine blk_drew ?_ | refine blk_alloc ?_ _ | refine blk_far ?_ (by assumption) _)); refine blk_put (cs := #[.int .i64 0, .int .i64 0, .int .i64 0, .int .i64 0, .int .i64 0, .int .i64 0, .int .i64 0, .int .i64 0, .int .i64 0, .int .i64 0, .int .i64 0, .int .i64 0, .int .i64 0, .int .i64 0, .int .i64 0, .int .i64 0]) ?_ 6 _ rfl; (with_reducible repeat (first | refine blk_drewN ?_ _ | refine blk_drew ?_ | refine blk_alloc ?_ _ | refine blk_far ?_ (by assumption) _)); refine blk_put (cs := #[.int .i64 0, .int .i64 0, .int .i64 0, .int .i64 0, .int .i64 0, .int .i64 0, .int .i64 0, .int .i64 0, .int .i64 0, .int .i64 0, .int .i64 0, .int .i64 0, .int .i64 0, .int .i64 0, .int .i64 0, .int .i64 0]) ?_ 5 _ rfl; (with_reducible repeat (first | refine blk_drewN ?_ _ | refine blk_drew ?_ | refine blk_alloc ?_ _ | refine blk_far ?_ (by assumption) _)); refine blk_put (cs := #[.int .i64 0, .int .i64 0, .int .i64 0, .int .i64 0, .int .i64 0, .int .i64 0, .int .i64 0, .int .i64 0, .int .i64 0, .int .i64 0, .int .i64 0, .int .i64 0, .int .i64 0, .int .i64 0, .int .i64 0, .int .i64 0]) ?_ 4 _ rfl; (with_reducible repeat (first | refine blk_drewN ?_ _ | refine blk_drew ?_ | refine blk_alloc ?_ _ | refine blk_far ?_ (by assumption) _)); refine blk_put (cs := #[.int .i64 0, .int .i64 0, .int .i64 0, .int .i64 0, .int .i64 0, .int .i64 0, .int .i64 0, .int .i64 0, .int .i64 0, .int .i64 0, .int .i64 0, .int .i64 0, .int .i64 0, .int .i64 0, .int .i64 0, .int .i64 0]) ?_ 3 _ rfl; (with_reducible repeat (first | refine blk_drewN ?_ _ | refine blk_drew ?_ | refine blk_alloc ?_ _ | refine blk_far ?_ (by assumption) _)); refine blk_put (cs := #[.int .i64 0, .int .i64 0, .int .i64 0, .int .i64 0, .int .i64 0, .int .i64 0, .int .i64 0, .int .i64 0, .int .i64 0, .int .i64 0, .int .i64 0, .int .i64 0, .int .i64 0, .int .i64 0, .int .i64 0, .int .i64 0]) ?_ 2 _ rfl; (with_reducible repeat (first | refine blk_drewN ?_ _ | refine blk_drew ?_ | refine blk_alloc ?_ _ | refine blk_far ?_ (by assumption) _)); refine blk_put (cs := #[.int .i64 0, .int .i64 0, .int .i64 0, .int .i64 0, .int .i64 0, .int .i64 0, .int .i64 0, .int .i64 0, .int .i64 0, .int .i64 0, .int .i64 0, .int .i64 0, .int .i64 0, .int .i64 0, .int .i64 0, .int .i64 0]) ?_ 1 _ rfl; (with_reducible repeat (first | refine blk_drewN ?_ _ | refine blk_drew ?_ | refine blk_alloc ?_ _ | refine blk_far ?_ (by assumption) _)); refine blk_put (cs := #[.int .i64 0, .int .i64 0, .int .i64 0, .int .i64 0, .int .i64 0, .int .i64 0, .int .i64 0, .int .i64 0, .int .i64 0, .int .i64 0, .int .i64 0, .int .i64 0, .int .i64 0, .int .i64 0, .int .i64 0, .int .i64 0]) ?_ 0 _ rfl; (with_reducible repeat (first | refine blk_drewN ?_ _ | refine blk_drew ?_ | refine blk_alloc ?_ _ | refine blk_far ?_ (by assumption) _)); exact BK6.out) Try.underlying69 rfl (by kernel_rfl) rfl (by (with_reducible repeat (first | refine blk_drewN ?_ _ | refine blk_drew ?_ | refine blk_alloc ?_ _ | refine blk_far ?_ (by assumption) _)); refine blk_put (cs := #[.int .i64 t1, .int .i64 0]) ?_ 1 _ rfl; (with_reducible repeat (first | refine blk_drewN ?_ _ | refine blk_drew ?_ | refine blk_alloc ?_ _ | refine blk_far ?_ (by assumption) _)); refine blk_put (cs := #[.int .i64 0, .int .i64 0]) ?_ 0 _ rfl; (with_reducible repeat (first | refine blk_drewN ?_ _ | refine blk_drew ?_ | refine blk_alloc ?_ _ | refine blk_far ?_ (by assumption) _)); exact BK7.out) Try.underlying25 rfl (by kernel_rfl)) rfl ?_
  exact ⟨rfl, by repeat (first | (with_reducible first | exact HB.out | apply below_alloc | apply pw_below_drewN | apply below_drew1 | refine below_set ?_ GE6.out | refine below_set ?_ GE7.out | refine below_set ?_ GE8.out | refine below_set ?_ GE9.out) | exact HB.out)⟩
set_option maxHeartbeats 8000000 in
set_option maxRecDepth 100000 in
theorem votes_count.low (k : Nat) (A0 : Option Addr) (c0 : Nat) (l0 : List S35) (A1 : Option Addr) (c1 : Nat) (l1 : List Bool) (a2 : Int) (w : World)
    (hr0 : Kd.C k35 w A0 l0.length l0) (hc0 : l0.length ≤ c0) (hr1 : Kd.C Kd.bool w A1 l1.length l1) (hc1 : l1.length ≤ c1) (hv : votes_Validate.f k l0 l1 = some (0, 0)) (q3 : a2 < 0) :
    Calls Try.prog 33 #[.slice A0 l0.length c0, .slice A1 l1.length c1, .int .i64 a2] w fun e w' => e = .returned (.tuple #[.agg (bal z8 z8), .agg #[.int .i64 3, .int .i64 (-3)]]) ∧ Below w.heap.size w w' := by
  have hu25 := Try.underlying25
  have hu69 := Try.underlying69
  have hu67 := Try.underlying67
  have HR0 := Aside0.mk hr0
  have HC0 := Aside0.mk hc0
  have HR1 := Aside0.mk hr1
  have HC1 := Aside0.mk hc1
  clear hr0 hc0 hr1 hc1
  have HB := Aside0.mk (Below.refl w.heap.size w)
  have A2 := Aside0.mk hv
  clear hv
  have BZ : bal z8 z8 = #[.int .i64 0, .int .i64 0, .int .i64 0, .int .i64 0, .int .i64 0, .int .i64 0, .int .i64 0, .int .i64 0, .int .i64 0, .int .i64 0, .int .i64 0, .int .i64 0, .int .i64 0, .int .i64 0, .int .i64 0, .int .i64 0] := rfl
  have q3b : decide (a2 < 0) = true := decide_eq_true q3
  clear q3
  go_enter Try.func33, Try.ntmps33
  go_wp2_with (first
    | ((with_reducible refine gate_dst (N := 6) rfl ?_); refine box_event ?hg (N := 6) ?hd (cs := bal z8 z8) (t := 69) ?hr ?_; (case hd => rfl); (case hg => rfl); (case hr => first | (go_simp; rfl) | kernel_rfl); intro g6 hg w1 hbox hb; have n0_ := Aside0.mk (below_step HB.out hb); have BK6 := Aside0.mk hbox; have GE6 : Aside0 (w.heap.size ≤ g6) := Aside0.mk (by rw [hg]; exact Nat.le_refl _); clear HB; have HB := n0_; clear n0_ hb hbox hg)
    | ((with_reducible refine gate_dst (N := 7) rfl ?_); refine box_event ?hg (N := 7) ?hd (cs := #[.int .i64 0, .int .i64 0]) (t := 25) ?hr ?_; (case hd => rfl); (case hg => rfl); (case hr => first | (go_simp; rfl) | kernel_rfl); intro g7 hg w2 hbox hb; have NE76 : Aside0 (g7 ≠ g6) := Aside0.mk (by rw [hg]; exact Nat.ne_of_gt (blk_lt BK6.out)); have GE7 : Aside0 (w.heap.size ≤ g7) := Aside0.mk (by rw [hg]; exact HB.out.size); have n0_ := Aside0.mk (below_step HB.out hb); have n1_ := Aside0.mk (blk_below BK6.out hb); have BK7 := Aside0.mk hbox; clear HB BK6; have HB := n0_; have BK6 := n1_; clear n0_ n1_ hb hbox hg)
    | ((with_reducible refine gate_dst (N := 8) rfl ?_); refine box_event ?hg (N := 8) ?hd (cs := bal z8 z8) (t := 69) ?hr ?_; (case hd => rfl); (case hg => rfl); (case hr => first | (go_simp; rfl) | kernel_rfl); intro g8 hg w3 hbox hb; have NE86 : Aside0 (g8 ≠ g6) := Aside0.mk (by rw [hg]; exact Nat.ne_of_gt (blk_lt BK6.out)); have NE87 : Aside0 (g8 ≠ g7) := Aside0.mk (by rw [hg]; exact Nat.ne_of_gt (blk_lt BK7.out)); have GE8 : Aside0 (w.heap.size ≤ g8) := Aside0.mk (by rw [hg]; exact HB.out.size); have n0_ := Aside0.mk (below_step HB.out hb); have n1_ := Aside0.mk (blk_below BK6.out hb); have n2_ := Aside0.mk (blk_below BK7.out hb); have BK8 := Aside0.mk hbox; clear HB BK6 BK7; have HB := n0_; have BK6 := n1_; have BK7 := n2_; clear n0_ n1_ n2_ hb hbox hg)
    | ((with_reducible refine gate_callee (f := 18) rfl ?_); refine goesL_ (some 17) rfl rfl Try.func18 (by kernel_rfl) rfl #[.slice A0 l0.length c0, .slice A1 l1.length c1] rfl (by (try simp only [List.map_toArray, List.map_cons, List.map_nil]); first | done | rfl) ?_; (refine (votes_Validate.calls k _ _ l0 _ _ l1 0 0 _ (Kd.C_below HR0.out HB.out) HC0.out (Kd.C_below HR1.out HB.out) HC1.out A2.out).mono ?_); rintro e w4 ⟨rfl, hb⟩; refine ⟨_, rfl, ?_⟩; have n0_ := Aside0.mk (below_step HB.out hb); have n1_ := Aside0.mk (blk_below BK6.out hb); have n2_ := Aside0.mk (blk_below BK7.out hb); have n3_ := Aside0.mk (blk_below BK8.out hb); clear HB BK6 BK7 BK8; have HB := n0_; have BK6 := n1_; have BK7 := n2_; have BK8 := n3_; clear n0_ n1_ n2_ n3_ hb)
    | ((with_reducible refine gate_dst (N := 9) rfl ?_); refine box_event ?hg (N := 9) ?hd (cs := #[.int .i64 0, .int .i64 0]) (t := 25) ?hr ?_; (case hd => rfl); (case hg => rfl); (case hr => first | (go_simp; rfl) | kernel_rfl); intro g9 hg w5 hbox hb; have NE96 : Aside0 (g9 ≠ g6) := Aside0.mk (by rw [hg]; exact Nat.ne_of_gt (blk_lt BK6.out)); have NE97 : Aside0 (g9 ≠ g7) := Aside0.mk (by rw [hg]; exact Nat.ne_of_gt (blk_lt BK7.out)); have NE98 : Aside0 (g9 ≠ g8) := Aside0.mk (by rw [hg]; exact Nat.ne_of_gt (blk_lt BK8.out)); have GE9 : Aside0 (w.heap.size ≤ g9) := Aside0.mk (by rw [hg]; exact HB.out.size); have n0_ := Aside0.mk (below_step HB.out hb); have n1_ := Aside0.mk (blk_below BK6.out hb); have n2_ := Aside0.mk (blk_below BK7.out hb); have n3_ := Aside0.mk (blk_below BK8.out hb); have BK9 := Aside0.mk hbox; clear HB BK6 BK7 BK8; have HB := n0_; have BK6 := n1_; have BK7 := n2_; have BK8 := n3_; clear n0_ n1_ n2_ n3_ hb hbox hg; have hc90 := (blk_cell BK9.out 0).trans rfl; have hc91 := (blk_cell BK9.out 1).trans rfl; have hf90 := blk_frozen BK9.out 0; have hf91 := blk_frozen BK9.out 1; rw [BZ] at BK6 BK8; have uc0 : w5.cell? ⟨g8, 0, none⟩ = some (.int .i64 0) := (blk_cell BK8.out 0).trans rfl; have uc1 : w5.cell? ⟨g8, 1, none⟩ = some (.int .i64 0) := (blk_cell BK8.out 1).trans rfl; have uc2 : w5.cell? ⟨g8, 2, none⟩ = some (.int .i64 0) := (blk_cell BK8.out 2).trans rfl; have uc3 : w5.cell? ⟨g8, 3, none⟩ = some (.int .i64 0) := (blk_cell BK8.out 3).trans rfl; have uc4 : w5.cell? ⟨g8, 4, none⟩ = some (.int .i64 0) := (blk_cell BK8.out 4).trans rfl; have uc5 : w5.cell? ⟨g8, 5, none⟩ = some (.int .i64 0) := (blk_cell BK8.out 5).trans rfl; have uc6 : w5.cell? ⟨g8, 6, none⟩ = some (.int .i64 0) := (blk_cell BK8.out 6).trans rfl; have uc7 : w5.cell? ⟨g8, 7, none⟩ = some (.int .i64 0) := (blk_cell BK8.out 7).trans rfl; have uc8 : w5.cell? ⟨g8, 8, none⟩ = some (.int .i64 0) := (blk_cell BK8.out 8).trans rfl; have uc9 : w5.cell? ⟨g8, 9, none⟩ = some (.int .i64 0) := (blk_cell BK8.out 9).trans rfl; have uc10 : w5.cell? ⟨g8, 10, none⟩ = some (.int .i64 0) := (blk_cell BK8.out 10).trans rfl; have uc11 : w5.cell? ⟨g8, 11, none⟩ = some (.int .i64 0) := (blk_cell BK8.out 11).trans rfl; have uc12 : w5.cell? ⟨g8, 12, none⟩ = some (.int .i64 0) := (blk_cell BK8.out 12).trans rfl; have uc13 : w5.cell? ⟨g8, 13, none⟩ = some (.int .i64 0) := (blk_cell BK8.out 13).trans rfl; have uc14 : w5.cell? ⟨g8, 14, none⟩ = some (.int .i64 0) := (blk_cell BK8.out 14).trans rfl; have uc15 : w5.cell? ⟨g8, 15, none⟩ = some (.int .i64 0) := (blk_cell BK8.out 15).trans rfl; have uf0 := blk_frozen BK8.out 0; have uf1 := blk_frozen BK8.out 1; have uf2 := blk_frozen BK8.out 2; have uf3 := blk_frozen BK8.out 3; have uf4 := blk_frozen BK8.out 4; have uf5 := blk_frozen BK8.out 5; have uf6 := blk_frozen BK8.out 6; have uf7 := blk_frozen BK8.out 7; have uf8 := blk_frozen BK8.out 8; have uf9 := blk_frozen BK8.out 9; have uf10 := blk_frozen BK8.out 10; have uf11 := blk_frozen BK8.out 11; have uf12 := blk_frozen BK8.out 12; have uf13 := blk_frozen BK8.out 13; have uf14 := blk_frozen BK8.out 14; have uf15 := blk_frozen BK8.out 15; have vc0 : w5.cell? ⟨g6, 0, none⟩ = some (.int .i64 0) := (blk_cell BK6.out 0).trans rfl; have vc1 : w5.cell? ⟨g6, 1, none⟩ = some (.int .i64 0) := (blk_cell BK6.out 1).trans rfl; have vc2 : w5.cell? ⟨g6, 2, none⟩ = some (.int .i64 0) := (blk_cell BK6.out 2).trans rfl; have vc3 : w5.cell? ⟨g6, 3, none⟩ = some (.int .i64 0) := (blk_cell BK6.out 3).trans rfl; have vc4 : w5.cell? ⟨g6, 4, none⟩ = some (.int .i64 0) := (blk_cell BK6.out 4).trans rfl; have vc5 : w5.cell? ⟨g6, 5, none⟩ = some (.int .i64 0) := (blk_cell BK6.out 5).trans rfl; have vc6 : w5.cell? ⟨g6, 6, none⟩ = some (.int .i64 0) := (blk_cell BK6.out 6).trans rfl; have vc7 : w5.cell? ⟨g6, 7, none⟩ = some (.int .i64 0) := (blk_cell BK6.out 7).trans rfl; have vc8 : w5.cell? ⟨g6, 8, none⟩ = some (.int .i64 0) := (blk_cell BK6.out 8).trans rfl; have vc9 : w5.cell? ⟨g6, 9, none⟩ = some (.int .i64 0) := (blk_cell BK6.out 9).trans rfl; have vc10 : w5.cell? ⟨g6, 10, none⟩ = some (.int .i64 0) := (blk_cell BK6.out 10).trans rfl; have vc11 : w5.cell? ⟨g6, 11, none⟩ = some (.int .i64 0) := (blk_cell BK6.out 11).trans rfl; have vc12 : w5.cell? ⟨g6, 12, none⟩ = some (.int .i64 0) := (blk_cell BK6.out 12).trans rfl; have vc13 : w5.cell? ⟨g6, 13, none⟩ = some (.int .i64 0) := (blk_cell BK6.out 13).trans rfl; have vc14 : w5.cell? ⟨g6, 14, none⟩ = some (.int .i64 0) := (blk_cell BK6.out 14).trans rfl; have vc15 : w5.cell? ⟨g6, 15, none⟩ = some (.int .i64 0) := (blk_cell BK6.out 15).trans rfl; have vf0 := blk_frozen BK6.out 0; have vf1 := blk_frozen BK6.out 1; have vf2 := blk_frozen BK6.out 2; have vf3 := blk_frozen BK6.out 3; have vf4 := blk_frozen BK6.out 4; have vf5 := blk_frozen BK6.out 5; have vf6 := blk_frozen BK6.out 6; have vf7 := blk_frozen BK6.out 7; have vf8 := blk_frozen BK6.out 8; have vf9 := blk_frozen BK6.out 9; have vf10 := blk_frozen BK6.out 10; have vf11 := blk_frozen BK6.out 11; have vf12 := blk_frozen BK6.out 12; have vf13 := blk_frozen BK6.out 13; have vf14 := blk_frozen BK6.out 14; have vf15 := blk_frozen BK6.out 15; have xc0 : w5.cell? ⟨g7, 0, none⟩ = some (.int .i64 0) := (blk_cell BK7.out 0).trans rfl; have xc1 : w5.cell? ⟨g7, 1, none⟩ = some (.int .i64 0) := (blk_cell BK7.out 1).trans rfl; have xf0 := blk_frozen BK7.out 0; have xf1 := blk_frozen BK7.out 1; have NE98' := NE98.out; have NE89' := Ne.symm NE98'; have NE96' := NE96.out; have NE69' := Ne.symm NE96'; have NE97' := NE97.out; have NE79' := Ne.symm NE97'; have NE86' := NE86.out; have NE68' := Ne.symm NE86'; have NE87' := NE87.out; have NE78' := Ne.symm NE87'; have NE76' := NE76.out; have NE67' := Ne.symm NE76')
    | fail)
  refine bodyPost_ret (results_cc rfl _ _ g6 g7 69 25 #[.int .i64 0, .int .i64 0, .int .i64 0, .int .i64 0, .int .i64 0, .int .i64 0, .int .i64 0, .int .i64 0, .int .i64 0, .int .i64 0, .int .i64 0, .int .i64 0, .int .i64 0, .int .i64 0, .int .i64 0, .int .i64 0] #[.int .i64 3, .int .i64 (-3)] (0, 0) (0, 0) _ _ rfl (by (with_reducible repeat (first | refine blk_drewN ?_ _ | refine blk_drew ?_ | refine blk_alloc ?_ _ | refine blk_far ?_ (by assumption) _)); refine blk_put (cs := #[.int .i64 0, .int .i64 0, .int .i64 0, .int .i64 0, .int .i64 0, .int .i64 0, .int .i64 0, .int .i64 0, .int .i64 0, .int .i64 0, .int .i64 0, .int .i64 0, .int .i64 0, .int .i64 0, .int .i64 0, .int .i64 0]) ?_ 15 _ rfl; (with_reducible repeat (first | refine blk_drewN ?_ _ | refine blk_drew ?_ | refine blk_alloc ?_ _ | refine blk_far ?_ (by assumption) _)); refine blk_put (cs := #[.int .i64 0, .int .i64 0, .int .i64 0, .int .i64 0, .int .i64 0, .int .i64 0, .int .i64 0, .int .i64 0, .int .i64 0, .int .i64 0, .int .i64 0, .int .i64 0, .int .i64 0, .int .i64 0, .int .i64 0, .int .i64 0]) ?_ 14 _ rfl; (with_reducible repeat (first | refine blk_drewN ?_ _ | refine blk_drew ?_ | refine blk_alloc ?_ _ | refine blk_far ?_ (by assumption) _)); refine blk_put (cs := #[.int .i64 0, .int .i64 0, .int .i64 0, .int .i64 0, .int .i64 0, .int .i64 0, .int .i64 0, .int .i64 0, .int .i64 0, .int .i64 0, .int .i64 0, .int .i64 0, .int .i64 0, .int .i64 0, .int .i64 0, .int .i64 0]) ?_ 13 _ rfl; (with_reducible repeat (first | refine blk_drewN ?_ _ | refine blk_drew ?_ | refine blk_alloc ?_ _ | refine blk_far ?_ (by assumption) _)); refine blk_put (cs := #[.int .i64 0, .int .i64 0, .int .i64 0, .int .i64 0, .int .i64 0, .int .i64 0, .int .i64 0, .int .i64 0, .int .i64 0, .int .i64 0, .int .i64 0, .int .i64 0, .int .i64 0, .int .i64 0, .int .i64 0, .int .i64 0]) ?_ 12 _ rfl; (with_reducible repeat (first | refine blk_drewN ?_ _ | refine blk_drew ?_ | refine blk_alloc ?_ _ | refine blk_far ?_ (by assumption) _)); refine blk_put (cs := #[.int .i64 0, .int .i64 0, .int .i64 0, .int .i64 0, .int .i64 0, .int .i64 0, .int .i64 0, .int .i64 0, .int .i64 0, .int .i64 0, .int .i64 0, .int .i64 0, .int .i64 0, .int .i64 0, .int .i64 0, .int .i64 0]) ?_ 11 _ rfl; (with_reducible repeat (first | refine blk_drewN ?_ _ | refine blk_drew ?_ | refine blk_alloc ?_ _ | refine blk_far ?_ (by assumption) _)); refine blk_put (cs := #[.int .i64 0, .int .i64 0, .int .i64 0, .int .i64 0, .int .i64 0, .int .i64 0, .int .i64 0, .int .i64 0, .int .i64 0, .int .i64 0, .int .i64 0, .int .i64 0, .int .i64 0, .int .i64 0, .int .i64 0, .int .i64 0]) ?_ 10 _ rfl; (with_reducible repeat (first | refine blk_drewN ?_ _ | refine blk_drew ?_ | refine blk_alloc ?_ _ | refine blk_far ?_ (by assumption) _)); refine blk_put (cs := #[.int .i64 0, .int .i64 0, .int .i64 0, .int .i64 0, .int .i64 0, .int .i64 0, .int .i64 0, .int .i64 0, .int .i64 0, .int .i64 0, .int .i64 0, .int .i64 0, .int .i64 0, .int .i64 0, .int .i64 0, .int .i64 0]) ?_ 9 _ rfl; (with_reducible repeat (first | refine blk_drewN ?_ _ | refine blk_drew ?_ | refine blk_alloc ?_ _ | refine blk_far ?_ (by assumption) _)); refine blk_put (cs := #[.int .i64 0, .int .i64 0, .int .i64 0, .int .i64 0, .int .i64 0, .int .i64 0, .int .i64 0, .int .i64 0, .int .i64 0, .int .i64 0, .int .i64 0, .int .i64 0, .int .i64 0, .int .i64 0, .int .i64 0, .int .i64 0]) ?_ 8 _ rfl; (with_reducible repeat (first | refine blk_drewN ?_ _ | refine blk_drew ?_ | refine blk_alloc ?_ _ | refine blk_far ?_ (by assumption) _)); refine blk_put (cs := #[.int .i64 0, .int .i64 0, .int .i64 0, .int .i64 0, .int .i64 0, .int .i64 0, .int .i64 0, .int .i64 0, .int .i64 0, .int .i64 0, .int .i64 0, .int .i64 0, .int .i64 0, .int .i64 0, .int .i64 0, .int .i64 0]) ?_ 7 _ rfl; (with_reducible repeat (first | refine blk_drewN ?_ _ | refine blk_drew ?_ | refine blk_alloc ?_ _ | refine blk_far ?_ (by assumption) _)); refine blk_put (cs := #[.int .i64 0, .int .i64 0, .int .i64 0, .int .i64 0, .int .i64 0, .int .i64 0, .int .i64 0, .int .i64 0, .int .i64 0, .int .i64 0, .int .i64 0, .int .i64 0, .int .i64 0, .int .i64 0, .int .i64 0, .int .i64 0]) ?_ 6 _ rfl; (with_reducible repeat (first | refine blk_drewN ?_ _ | refine blk_drew ?_ | refine blk_alloc ?_ _ | refine blk_far ?_ (by assumption) _)); refine blk_put (cs := #[.int .i64 0, .int .i64 0, .int .i64 0, .int .i64 0, .int .i64 0, .int .i64 0, .int .i64 0, .int .i64 0, .int .i64 0, .int .i64 0, .int .i64 0, .int .i64 0, .int .i64 0, .int .i64 0, .int .i64 0, .int .i64 0]) ?_ 5 _ rfl; (with_reducible repeat (first | refine blk_drewN ?_ _ | refine blk_drew ?_ | refine blk_alloc ?_ _ | refine blk_far ?_ (by assumption) _)); refine blk_put (cs := #[.int .i64 0, .int .i64 0, .int .i64 0, .int .i64 0, .int .i64 0, .int .i64 0, .int .i64 0, .int .i64 0, .int .i64 0, .int .i64 0, .int .i64 0, .int .i64 0, .int .i64 0, .int .i64 0, .int .i64 0, .int .i64 0]) ?_ 4 _ rfl; (with_reducible repeat (first | refine blk_drewN ?_ _ | refine blk_drew ?_ | refine blk_alloc ?_ _ | refine blk_far ?_ (by assumption) _)); refine blk_put (cs := #[.int .i64 0, .int .i64 0, .int .i64 0, .int .i64 0, .int .i64 0, .int .i64 0, .int .i64 0, .int .i64 0, .int .i64 0, .int .i64 0, .int .i64 0, .int .i64 0, .int .i64 0, .int .i64 0, .int .i64 0, .int .i64 0]) ?_ 3 _ rfl; (with_reducible repeat (first | refine blk_drewN ?_ _ | refine blk_drew ?_ | refine blk_alloc ?_ _ | refine blk_far ?_ (by assumption) _)); refine blk_put (cs := #[.int .i64 0, .int .i64 0, .int .i64 0, .int .i64 0, .int .i64 0, .int .i64 0, .int .i64 0, .int .i64 0, .int .i64 0, .int .i64 0, .int .i64 0, .int .i64 0, .int .i64 0, .int .i64 0, .int .i64 0, .int .i64 0]) ?_ 2 _ rfl; (with_reducible repeat (first | refine blk_drewN ?_ _ | refine blk_drew ?_ | refine blk_alloc ?_ _ | refine blk_far ?_ (by assumption) _)); refine blk_put (cs := #[.int .i64 0, .int .i64 0, .int .i64 0, .int .i64 0, .int .i64 0, .int .i64 0, .int .i64 0, .int .i64 0, .int .i64 0, .int .i64 0, .int .i64 0, .int .i64 0, .int .i64 0, .int .i64 0, .int .i64 0, .int .i64 0]) ?_ 1 _ rfl; (with_reducible repeat (first | refine blk_drewN ?_ _ | refine blk_drew ?_ | refine blk_alloc ?_ _ | refine blk_far ?_ (by assumption) _)); refine blk_put (cs := #[.int .i64 0, .int .i64 0, .int .i64 0, .int .i64 0, .int .i64 0, .int .i64 0, .int .i64 0, .int .i64 0, .int .i64 0, .int .i64 0, .int .i64 0, .int .i64 0, .int .i64 0, .int .i64 0, .int .i64 0, .int .i64 0]) ?_ 0 _ rfl; (with_reducible repeat (first | refine blk_drewN ?_ _ | refine blk_drew ?_ | refine blk_alloc ?_ _ | refine blk_far ?_ (by assumption) _)); exact BK6.out) Try.underlying69 rfl (by kernel_rfl) rfl (by (with_reducible repeat (first | refine blk_drewN ?_ _ | refine blk_drew ?_ | refine blk_alloc ?_ _ | refine blk_far ?_ (by assumption) _)); refine blk_put (cs := #[.int .i64 3, .int .i64 0]) ?_ 1 _ rfl; (with_reducible repeat (first | refine blk_drewN ?_ _ | refine blk_drew ?_ | refine blk_alloc ?_ _ | refine blk_far ?_ (by assumption) _)); refine blk_put (cs := #[.int .i64 0, .int .i64 0]) ?_ 0 _ rfl; (with_reducible repeat (first | refine blk_drewN ?_ _ | refine blk_drew ?_ | refine blk_alloc ?_ _ | refine blk_far ?_ (by assumption) _)); exact BK7.out) Try.underlying25 rfl (by kernel_rfl)) rfl ?_
  exact ⟨rfl, by repeat (first | (with_reducible first | exact HB.out | apply below_alloc | apply pw_below_drewN | apply below_drew1 | refine below_set ?_ GE6.out | refine below_set ?_ GE7.out | refine below_set ?_ GE8.out | refine below_set ?_ GE9.out) | exact HB.out)⟩
set_option maxHeartbeats 8000000 in
set_option maxRecDepth 100000 in
theorem votes_count.high (k : Nat) (A0 : Option Addr) (c0 : Nat) (l0 : List S35) (A1 : Option Addr) (c1 : Nat) (l1 : List Bool) (a2 : Int) (w : World)
    (hr0 : Kd.C k35 w A0 l0.length l0) (hc0 : l0.length ≤ c0) (hr1 : Kd.C Kd.bool w A1 l1.length l1) (hc1 : l1.length ≤ c1) (hv : votes_Validate.f k l0 l1 = some (0, 0)) (q3 : ¬ a2 < 0) (q4 : a2 ≥ (l1.length : Int)) :
    Calls Try.prog 33 #[.slice A0 l0.length c0, .slice A1 l1.length c1, .int .i64 a2] w fun e w' => e = .returned (.tuple #[.agg (bal z8 z8), .agg #[.int .i64 3, .int .i64 (-3)]]) ∧ Below w.heap.size w w' := by
  have hu25 := Try.underlying25
  have hu69 := Try.underlying69
  have hu67 := Try.underlying67
  have HR0 := Aside0.mk hr0
  have HC0 := Aside0.mk hc0
  have HR1 := Aside0.mk hr1
  have HC1 := Aside0.mk hc1
  clear hr0 hc0 hr1 hc1
  have HB := Aside0.mk (Below.refl w.heap.size w)
  have A2 := Aside0.mk hv
  clear hv
  have BZ : bal z8 z8 = #[.int .i64 0, .int .i64 0, .int .i64 0, .int .i64 0, .int .i64 0, .int .i64 0, .int .i64 0, .int .i64 0, .int .i64 0, .int .i64 0, .int .i64 0, .int .i64 0, .int .i64 0, .int .i64 0, .int .i64 0, .int .i64 0] := rfl
  have q3b : decide (a2 < 0) = false := decide_eq_false q3
  have q4b : decide ((l1.length : Int) ≤ a2) = true := decide_eq_true q4
  clear q3 q4
  go_enter Try.func33, Try.ntmps33
  go_wp2_with (first
    | ((with_reducible refine gate_dst (N := 6) rfl ?_); refine box_event ?hg (N := 6) ?hd (cs := bal z8 z8) (t := 69) ?hr ?_; (case hd => rfl); (case hg => rfl); (case hr => first | (go_simp; rfl) | kernel_rfl); intro g6 hg w1 hbox hb; have n0_ := Aside0.mk (below_step HB.out hb); have BK6 := Aside0.mk hbox; have GE6 : Aside0 (w.heap.size ≤ g6) := Aside0.mk (by rw [hg]; exact Nat.le_refl _); clear HB; have HB := n0_; clear n0_ hb hbox hg)
    | ((with_reducible refine gate_dst (N := 7) rfl ?_); refine box_event ?hg (N := 7) ?hd (cs := #[.int .i64 0, .int .i64 0]) (t := 25) ?hr ?_; (case hd => rfl); (case hg => rfl); (case hr => first | (go_simp; rfl) | kernel_rfl); intro g7 hg w2 hbox hb; have NE76 : Aside0 (g7 ≠ g6) := Aside0.mk (by rw [hg]; exact Nat.ne_of_gt (blk_lt BK6.out)); have GE7 : Aside0 (w.heap.size ≤ g7) := Aside0.mk (by rw [hg]; exact HB.out.size); have n0_ := Aside0.mk (below_step HB.out hb); have n1_ := Aside0.mk (blk_below BK6.out hb); have BK7 := Aside0.mk hbox; clear HB BK6; have HB := n0_; have BK6 := n1_; clear n0_ n1_ hb hbox hg)
    | ((with_reducible refine gate_dst (N := 8) rfl ?_); refine box_event ?hg (N := 8) ?hd (cs := bal z8 z8) (t := 69) ?hr ?_; (case hd => rfl); (case hg => rfl); (case hr => first | (go_simp; rfl) | kernel_rfl); intro g8 hg w3 hbox hb; have NE86 : Aside0 (g8 ≠ g6) := Aside0.mk (by rw [hg]; exact Nat.ne_of_gt (blk_lt BK6.out)); have NE87 : Aside0 (g8 ≠ g7) := Aside0.mk (by rw [hg]; exact Nat.ne_of_gt (blk_lt BK7.out)); have GE8 : Aside0 (w.heap.size ≤ g8) := Aside0.mk (by rw [hg]; exact HB.out.size); have n0_ := Aside0.mk (below_step HB.out hb); have n1_ := Aside0.mk (blk_below BK6.out hb); have n2_ := Aside0.mk (blk_below BK7.out hb); have BK8 := Aside0.mk hbox; clear HB BK6 BK7; have HB := n0_; have BK6 := n1_; have BK7 := n2_; clear n0_ n1_ n2_ hb hbox hg)
    | ((with_reducible refine gate_callee (f := 18) rfl ?_); refine goesL_ (some 17) rfl rfl Try.func18 (by kernel_rfl) rfl #[.slice A0 l0.length c0, .slice A1 l1.length c1] rfl (by (try simp only [List.map_toArray, List.map_cons, List.map_nil]); first | done | rfl) ?_; (refine (votes_Validate.calls k _ _ l0 _ _ l1 0 0 _ (Kd.C_below HR0.out HB.out) HC0.out (Kd.C_below HR1.out HB.out) HC1.out A2.out).mono ?_); rintro e w4 ⟨rfl, hb⟩; refine ⟨_, rfl, ?_⟩; have n0_ := Aside0.mk (below_step HB.out hb); have n1_ := Aside0.mk (blk_below BK6.out hb); have n2_ := Aside0.mk (blk_below BK7.out hb); have n3_ := Aside0.mk (blk_below BK8.out hb); clear HB BK6 BK7 BK8; have HB := n0_; have BK6 := n1_; have BK7 := n2_; have BK8 := n3_; clear n0_ n1_ n2_ n3_ hb)
    | ((with_reducible refine gate_dst (N := 9) rfl ?_); refine box_event ?hg (N := 9) ?hd (cs := #[.int .i64 0, .int .i64 0]) (t := 25) ?hr ?_; (case hd => rfl); (case hg => rfl); (case hr => first | (go_simp; rfl) | kernel_rfl); intro g9 hg w5 hbox hb; have NE96 : Aside0 (g9 ≠ g6) := Aside0.mk (by rw [hg]; exact Nat.ne_of_gt (blk_lt BK6.out)); have NE97 : Aside0 (g9 ≠ g7) := Aside0.mk (by rw [hg]; exact Nat.ne_of_gt (blk_lt BK7.out)); have NE98 : Aside0 (g9 ≠ g8) := Aside0.mk (by rw [hg]; exact Nat.ne_of_gt (blk_lt BK8.out)); have GE9 : Aside0 (w.heap.size ≤ g9) := Aside0.mk (by rw [hg]; exact HB.out.size); have n0_ := Aside0.mk (below_step HB.out hb); have n1_ := Aside0.mk (blk_below BK6.out hb); have n2_ := Aside0.mk (blk_below BK7.out hb); have n3_ := Aside0.mk (blk_below BK8.out hb); have BK9 := Aside0.mk hbox; clear HB BK6 BK7 BK8; have HB := n0_; have BK6 := n1_; have BK7 := n2_; have BK8 := n3_; clear n0_ n1_ n2_ n3_ hb hbox hg; have hc90 := (blk_cell BK9.out 0).trans rfl; have hc91 := (blk_cell BK9.out 1).trans rfl; have hf90 := blk_frozen BK9.out 0; have hf91 := blk_frozen BK9.out 1; rw [BZ] at BK6 BK8; have uc0 : w5.cell? ⟨g8, 0, none⟩ = some (.int .i64 0) := (blk_cell BK8.out 0).trans rfl; have uc1 : w5.cell? ⟨g8, 1, none⟩ = some (.int .i64 0) := (blk_cell BK8.out 1).trans rfl; have uc2 : w5.cell? ⟨g8, 2, none⟩ = some (.int .i64 0) := (blk_cell BK8.out 2).trans rfl; have uc3 : w5.cell? ⟨g8, 3, none⟩ = some (.int .i64 0) := (blk_cell BK8.out 3).trans rfl; have uc4 : w5.cell? ⟨g8, 4, none⟩ = some (.int .i64 0) := (blk_cell BK8.out 4).trans rfl; have uc5 : w5.cell? ⟨g8, 5, none⟩ = some (.int .i64 0) := (blk_cell BK8.out 5).trans rfl; have uc6 : w5.cell? ⟨g8, 6, none⟩ = some (.int .i64 0) := (blk_cell BK8.out 6).trans rfl; have uc7 : w5.cell? ⟨g8, 7, none⟩ = some (.int .i64 0) := (blk_cell BK8.out 7).trans rfl; have uc8 : w5.cell? ⟨g8, 8, none⟩ = some (.int .i64 0) := (blk_cell BK8.out 8).trans rfl; have uc9 : w5.cell? ⟨g8, 9, none⟩ = some (.int .i64 0) := (blk_cell BK8.out 9).trans rfl; have uc10 : w5.cell? ⟨g8, 10, none⟩ = some (.int .i64 0) := (blk_cell BK8.out 10).trans rfl; have uc11 : w5.cell? ⟨g8, 11, none⟩ = some (.int .i64 0) := (blk_cell BK8.out 11).trans rfl; have uc12 : w5.cell? ⟨g8, 12, none⟩ = some (.int .i64 0) := (blk_cell BK8.out 12).trans rfl; have uc13 : w5.cell? ⟨g8, 13, none⟩ = some (.int .i64 0) := (blk_cell BK8.out 13).trans rfl; have uc14 : w5.cell? ⟨g8, 14, none⟩ = some (.int .i64 0) := (blk_cell BK8.out 14).trans rfl; have uc15 : w5.cell? ⟨g8, 15, none⟩ = some (.int .i64 0) := (blk_cell BK8.out 15).trans rfl; have uf0 := blk_frozen BK8.out 0; have uf1 := blk_frozen BK8.out 1; have uf2 := blk_frozen BK8.out 2; have uf3 := blk_frozen BK8.out 3; have uf4 := blk_frozen BK8.out 4; have uf5 := blk_frozen BK8.out 5; have uf6 := blk_frozen BK8.out 6; have uf7 := blk_frozen BK8.out 7; have uf8 := blk_frozen BK8.out 8; have uf9 := blk_frozen BK8.out 9; have uf10 := blk_frozen BK8.out 10; have uf11 := blk_frozen BK8.out 11; have uf12 := blk_frozen BK8.out 12; have uf13 := blk_frozen BK8.out 13; have uf14 := blk_frozen BK8.out 14; have uf15 := blk_frozen BK8.out 15; have vc0 : w5.cell? ⟨g6, 0, none⟩ = some (.int .i64 0) := (blk_cell BK6.out 0).trans rfl; have vc1 : w5.cell? ⟨g6, 1, none⟩ = some (.int .i64 0) := (blk_cell BK6.out 1).trans rfl; have vc2 : w5.cell? ⟨g6, 2, none⟩ = some (.int .i64 0) := (blk_cell BK6.out 2).trans rfl; have vc3 : w5.cell? ⟨g6, 3, none⟩ = some (.int .i64 0) := (blk_cell BK6.out 3).trans rfl; have vc4 : w5.cell? ⟨g6, 4, none⟩ = some (.int .i64 0) := (blk_cell BK6.out 4).trans rfl; have vc5 : w5.cell? ⟨g6, 5, none⟩ = some (.int .i64 0) := (blk_cell BK6.out 5).trans rfl; have vc6 : w5.cell? ⟨g6, 6, none⟩ = some (.int .i64 0) := (blk_cell BK6.out 6).trans rfl; have vc7 : w5.cell? ⟨g6, 7, none⟩ = some (.int .i64 0) := (blk_cell BK6.out 7).trans rfl; have vc8 : w5.cell? ⟨g6, 8, none⟩ = some (.int .i64 0) := (blk_cell BK6.out 8).trans rfl; have vc9 : w5.cell? ⟨g6, 9, none⟩ = some (.int .i64 0) := (blk_cell BK6.out 9).trans rfl; have vc10 : w5.cell? ⟨g6, 10, none⟩ = some (.int .i64 0) := (blk_cell BK6.out 10).trans rfl; have vc11 : w5.cell? ⟨g6, 11, none⟩ = some (.int .i64 0) := (blk_cell BK6.out 11).trans rfl; have vc12 : w5.cell? ⟨g6, 12, none⟩ = some (.int .i64 0) := (blk_cell BK6.out 12).trans rfl; have vc13 : w5.cell? ⟨g6, 13, none⟩ = some (.int .i64 0) := (blk_cell BK6.out 13).trans rfl; have vc14 : w5.cell? ⟨g6, 14, none⟩ = some (.int .i64 0) := (blk_cell BK6.out 14).trans rfl; have vc15 : w5.cell? ⟨g6, 15, none⟩ = some (.int .i64 0) := (blk_cell BK6.out 15).trans rfl; have vf0 := blk_frozen BK6.out 0; have vf1 := blk_frozen BK6.out 1; have vf2 := blk_frozen BK6.out 2; have vf3 := blk_frozen BK6.out 3; have vf4 := blk_frozen BK6.out 4; have vf5 := blk_frozen BK6.out 5; have vf6 := blk_frozen BK6.out 6; have vf7 := blk_frozen BK6.out 7; have vf8 := blk_frozen BK6.out 8; have vf9 := blk_frozen BK6.out 9; have vf10 := blk_frozen BK6.out 10; have vf11 := blk_frozen BK6.out 11; have vf12 := blk_frozen BK6.out 12; have vf13 := blk_frozen BK6.out 13; have vf14 := blk_frozen BK6.out 14; have vf15 := blk_frozen BK6.out 15; have xc0 : w5.cell? ⟨g7, 0, none⟩ = some (.int .i64 0) := (blk_cell BK7.out 0).trans rfl; have xc1 : w5.cell? ⟨g7, 1, none⟩ = some (.int .i64 0) := (blk_cell BK7.out 1).trans rfl; have xf0 := blk_frozen BK7.out 0; have xf1 := blk_frozen BK7.out 1; have NE98' := NE98.out; have NE89' := Ne.symm NE98'; have NE96' := NE96.out; have NE69' := Ne.symm NE96'; have NE97' := NE97.out; have NE79' := Ne.symm NE97'; have NE86' := NE86.out; have NE68' := Ne.symm NE86'; have NE87' := NE87.out; have NE78' := Ne.symm NE87'; have NE76' := NE76.out; have NE67' := Ne.symm NE76')
    | fail)
  refine bodyPost_ret (results_cc rfl _ _ g6 g7 69 25 #[.int .i64 0, .int .i64 0, .int .i64 0, .int .i64 0, .int .i64 0, .int .i64 0, .int .i64 0, .int .i64 0, .int .i64 0, .int .i64 0, .int .i64 0, .int .i64 0, .int .i64 0, .int .i64 0, .int .i64 0, .int .i64 0] #[.int .i64 3, .int .i64 (-3)] (0, 0) (0, 0) _ _ rfl (by (with_reducible repeat (first | refine blk_drewN ?_ _ | refine blk_drew ?_ | refine blk_alloc ?_ _ | refine blk_far ?_ (by assumption) _)); refine blk_put (cs := #[.int .i64 0, .int .i64 0, .int .i64 0, .int .i64 0, .int .i64 0, .int .i64 0, .int .i64 0, .int .i64 0, .int .i64 0, .int .i64 0, .int .i64 0, .int .i64 0, .int .i64 0, .int .i64 0, .int .i64 0, .int .i64 0]) ?_ 15 _ rfl; (with_reducible repeat (first | refine blk_drewN ?_ _ | refine blk_drew ?_ | refine blk_alloc ?_ _ | refine blk_far ?_ (by assumption) _)); refine blk_put (cs := #[.int .i64 0, .int .i64 0, .int .i64 0, .int .i64 0, .int .i64 0, .int .i64 0, .int .i64 0, .int .i64 0, .int .i64 0, .int .i64 0, .int .i64 0, .int .i64 0, .int .i64 0, .int .i64 0, .int .i64 0, .int .i64 0]) ?_ 14 _ rfl; (with_reducible repeat (first | refine blk_drewN ?_ _ | refine blk_drew ?_ | refine blk_alloc ?_ _ | refine blk_far ?_ (by assumption) _)); refine blk_put (cs := #[.int .i64 0, .int .i64 0, .int .i64 0, .int .i64 0, .int .i64 0, .int .i64 0, .int .i64 0, .int .i64 0, .int .i64 0, .int .i64 0, .int .i64 0, .int .i64 0, .int .i64 0, .int .i64 0, .int .i64 0, .int .i64 0]) ?_ 13 _ rfl; (with_reducible repeat (first | refine blk_drewN ?_ _ | refine blk_drew ?_ | refine blk_alloc ?_ _ | refine blk_far ?_ (by assumption) _)); refine blk_put (cs := #[.int .i64 0, .int .i64 0, .int .i64 0, .int .i64 0, .int .i64 0, .int .i64 0, .int .i64 0, .int .i64 0, .int .i64 0, .int .i64 0, .int .i64 0, .int .i64 0, .int .i64 0, .int .i64 0, .int .i64 0, .int .i64 0]) ?_ 12 _ rfl; (with_reducible repeat (first | refine blk_drewN ?_ _ | refine blk_drew ?_ | refine blk_alloc ?_ _ | refine blk_far ?_ (by assumption) _)); refine blk_put (cs := #[.int .i64 0, .int .i64 0, .int .i64 0, .int .i64 0, .int .i64 0, .int .i64 0, .int .i64 0, .int .i64 0, .int .i64 0, .int .i64 0, .int .i64 0, .int .i64 0, .int .i64 0, .int .i64 0, .int .i64 0, .int .i64 0]) ?_ 11 _ rfl; (with_reducible repeat (first | refine blk_drewN ?_ _ | refine blk_drew ?_ | refine blk_alloc ?_ _ | refine blk_far ?_ (by assumption) _)); refine blk_put (cs := #[.int .i64 0, .int .i64 0, .int .i64 0, .int .i64 0, .int .i64 0, .int .i64 0, .int .i64 0, .int .i64 0, .int .i64 0, .int .i64 0, .int .i64 0, .int .i64 0, .int .i64 0, .int .i64 0, .int .i64 0, .int .i64 0]) ?_ 10 _ rfl; (with_reducible repeat (first | refine blk_drewN ?_ _ | refine blk_drew ?_ | refine blk_alloc ?_ _ | refine blk_far ?_ (by assumption) _)); refine blk_put (cs := #[.int .i64 0, .int .i64 0, .int .i64 0, .int .i64 0, .int .i64 0, .int .i64 0, .int .i64 0, .int .i64 0, .int .i64 0, .int .i64 0, .int .i64 0, .int .i64 0, .int .i64 0, .int .i64 0, .int .i64 0, .int .i64 0]) ?_ 9 _ rfl; (with_reducible repeat (first | refine blk_drewN ?_ _ | refine blk_drew ?_ | refine blk_alloc ?_ _ | refine blk_far ?_ (by assumption) _)); refine blk_put (cs := #[.int .i64 0, .int .i64 0, .int .i64 0, .int .i64 0, .int .i64 0, .int .i64 0, .int .i64 0, .int .i64 0, .int .i64 0, .int .i64 0, .int .i64 0, .int .i64 0, .int .i64 0, .int .i64 0, .int .i64 0, .int .i64 0]) ?_ 8 _ rfl; (with_reducible repeat (first | refine blk_drewN ?_ _ | refine blk_drew ?_ | refine blk_alloc ?_ _ | refine blk_far ?_ (by assumption) _)); refine blk_put (cs := #[.int .i64 0, .int .i64 0, .int .i64 0, .int .i64 0, .int .i64 0, .int .i64 0, .int .i64 0, .int .i64 0, .int .i64 0, .int .i64 0, .int .i64 0, .int .i64 0, .int .i64 0, .int .i64 0, .int .i64 0, .int .i64 0]) ?_ 7 _ rfl; (with_reducible repeat (first | refine blk_drewN ?_ _ | refine blk_drew ?_ | refine blk_alloc ?_ _ | refine blk_far ?_ (by assumption) _)); refine blk_put (cs := #[.int .i64 0, .int .i64 0, .int .i64 0, .int .i64 0, .int .i64 0, .int .i64 0, .int .i64 0, .int .i64 0, .int .i64 0, .int .i64 0, .int .i64 0, .int .i64 0, .int .i64 0, .int .i64 0, .int .i64 0, .int .i64 0]) ?_ 6 _ rfl; (with_reducible repeat (first | refine blk_drewN ?_ _ | refine blk_drew ?_ | refine blk_alloc ?_ _ | refine blk_far ?_ (by assumption) _)); refine blk_put (cs := #[.int .i64 0, .int .i64 0, .int .i64 0, .int .i64 0, .int .i64 0, .int .i64 0, .int .i64 0, .int .i64 0, .int .i64 0, .int .i64 0, .int .i64 0, .int .i64 0, .int .i64 0, .int .i64 0, .int .i64 0, .int .i64 0]) ?_ 5 _ rfl; (with_reducible repeat (first | refine blk_drewN ?_ _ | refine blk_drew ?_ | refine blk_alloc ?_ _ | refine blk_far ?_ (by assumption) _)); refine blk_put (cs := #[.int .i64 0, .int .i64 0, .int .i64 0, .int .i64 0, .int .i64 0, .int .i64 0, .int .i64 0, .int .i64 0, .int .i64 0, .int .i64 0, .int .i64 0, .int .i64 0, .int .i64 0, .int .i64 0, .int .i64 0, .int .i64 0]) ?_ 4 _ rfl; (with_reducible repeat (first | refine blk_drewN ?_ _ | refine blk_drew ?_ | refine blk_alloc ?_ _ | refine blk_far ?_ (by assumption) _)); refine blk_put (cs := #[.int .i64 0, .int .i64 0, .int .i64 0, .int .i64 0, .int .i64 0, .int .i64 0, .int .i64 0, .int .i64 0, .int .i64 0, .int .i64 0, .int .i64 0, .int .i64 0, .int .i64 0, .int .i64 0, .int .i64 0, .int .i64 0]) ?_ 3 _ rfl; (with_reducible repeat (first | refine blk_drewN ?_ _ | refine blk_drew ?_ | refine blk_alloc ?_ _ | refine blk_far ?_ (by assumption) _)); refine blk_put (cs := #[.int .i64 0, .int .i64 0, .int .i64 0, .int .i64 0, .int .i64 0, .int .i64 0, .int .i64 0, .int .i64 0, .int .i64 0, .int .i64 0, .int .i64 0, .int .i64 0, .int .i64 0, .int .i64 0, .int .i64 0, .int .i64 0]) ?_ 2 _ rfl; (with_reducible repeat (first | refine blk_drewN ?_ _ | refine blk_drew ?_ | refine blk_alloc ?_ _ | refine blk_far ?_ (by assumption) _)); refine blk_put (cs := #[.int .i64 0, .int .i64 0, .int .i64 0, .int .i64 0, .int .i64 0, .int .i64 0, .int .i64 0, .int .i64 0, .int .i64 0, .int .i64 0, .int .i64 0, .int .i64 0, .int .i64 0, .int .i64 0, .int .i64 0, .int .i64 0]) ?_ 1 _ rfl; (with_reducible repeat (first | refine blk_drewN ?_ _ | refine blk_drew ?_ | refine blk_alloc ?_ _ | refine blk_far ?_ (by assumption) _)); refine blk_put (cs := #[.int .i64 0, .int .i64 0, .int .i64 0, .int .i64 0, .int .i64 0, .int .i64 0, .int .i64 0, .int .i64 0, .int .i64 0, .int .i64 0, .int .i64 0, .int .i64 0, .int .i64 0, .int .i64 0, .int .i64 0, .int .i64 0]) ?_ 0 _ rfl; (with_reducible repeat (first | refine blk_drewN ?_ _ | refine blk_drew ?_ | refine blk_alloc ?_ _ | refine blk_far ?_ (by assumption) _)); exact BK6.out) Try.underlying69 rfl (by kernel_rfl) rfl (by (with_reducible repeat (first | refine blk_drewN ?_ _ | refine blk_drew ?_ | refine blk_alloc ?_ _ | refine blk_far ?_ (by assumption) _)); refine blk_put (cs := #[.int .i64 3, .int .i64 0]) ?_ 1 _ rfl; (with_reducible repeat (first | refine blk_drewN ?_ _ | refine blk_drew ?_ | refine blk_alloc ?_ _ | refine blk_far ?_ (by assumption) _)); refine blk_put (cs := #[.int .i64 0, .int .i64 0]) ?_ 0 _ rfl; (with_reducible repeat (first | refine blk_drewN ?_ _ | refine blk_drew ?_ | refine blk_alloc ?_ _ | refine blk_far ?_ (by assumption) _)); exact BK7.out) Try.underlying25 rfl (by kernel_rfl)) rfl ?_
  exact ⟨rfl, by repeat (first | (with_reducible first | exact HB.out | apply below_alloc | apply pw_below_drewN | apply below_drew1 | refine below_set ?_ GE6.out | refine below_set ?_ GE7.out | refine below_set ?_ GE8.out | refine below_set ?_ GE9.out) | exact HB.out)⟩
set_option maxHeartbeats 8000000 in
set_option maxRecDepth 100000 in
theorem votes_count.main (k : Nat) (A0 : Option Addr) (c0 : Nat) (l0 : List S35) (A1 : Option Addr) (c1 : Nat) (l1 : List Bool) (a2 : Int) (w : World)
    (hr0 : Kd.C k35 w A0 l0.length l0) (hc0 : l0.length ≤ c0) (hr1 : Kd.C Kd.bool w A1 l1.length l1) (hc1 : l1.length ≤ c1) (la' co' : List Int) (f1 f2 : Int) (hv : votes_Validate.f k l0 l1 = some (0, 0)) (q3 : ¬ a2 < 0) (q4 : ¬ a2 ≥ (l1.length : Int)) (hM : votes_count.l0 k l0 l1 a2 0 0 z8 z8 = some (la', co', f1, f2)) :
    Calls Try.prog 33 #[.slice A0 l0.length c0, .slice A1 l1.length c1, .int .i64 a2] w fun e w' => e = .returned (.tuple #[.agg (bal la' co'), .agg #[.int .i64 f1, .int .i64 f2]]) ∧ Below w.heap.size w w' := by
  have hu25 := Try.underlying25
  have hu69 := Try.underlying69
  have hu67 := Try.underlying67
  have HR0 := Aside0.mk hr0
  have HC0 := Aside0.mk hc0
  have HR1 := Aside0.mk hr1
  have HC1 := Aside0.mk hc1
  clear hr0 hc0 hr1 hc1
  have HB := Aside0.mk (Below.refl w.heap.size w)
  have A2 := Aside0.mk hv
  clear hv
  have BZ : bal z8 z8 = #[.int .i64 0, .int .i64 0, .int .i64 0, .int .i64 0, .int .i64 0, .int .i64 0, .int .i64 0, .int .i64 0, .int .i64 0, .int .i64 0, .int .i64 0, .int .i64 0, .int .i64 0, .int .i64 0, .int .i64 0, .int .i64 0] := rfl
  have H' := Aside0.mk hM
  clear hM
  have q3b : decide (a2 < 0) = false := decide_eq_false q3
  have q4b : decide ((l1.length : Int) ≤ a2) = false := decide_eq_false q4
  clear q3 q4
  go_enter Try.func33, Try.ntmps33
  go_wp2_with (first
    | ((with_reducible refine gate_dst (N := 6) rfl ?_); refine box_event ?hg (N := 6) ?hd (cs := bal z8 z8) (t := 69) ?hr ?_; (case hd => rfl); (case hg => rfl); (case hr => first | (go_simp; rfl) | kernel_rfl); intro g6 hg w1 hbox hb; have n0_ := Aside0.mk (below_step HB.out hb); have BK6 := Aside0.mk hbox; have GE6 : Aside0 (w.heap.size ≤ g6) := Aside0.mk (by rw [hg]; exact Nat.le_refl _); clear HB; have HB := n0_; clear n0_ hb hbox hg)
    | ((with_reducible refine gate_dst (N := 7) rfl ?_); refine box_event ?hg (N := 7) ?hd (cs := #[.int .i64 0, .int .i64 0]) (t := 25) ?hr ?_; (case hd => rfl); (case hg => rfl); (case hr => first | (go_simp; rfl) | kernel_rfl); intro g7 hg w2 hbox hb; have NE76 : Aside0 (g7 ≠ g6) := Aside0.mk (by rw [hg]; exact Nat.ne_of_gt (blk_lt BK6.out)); have GE7 : Aside0 (w.heap.size ≤ g7) := Aside0.mk (by rw [hg]; exact HB.out.size); have n0_ := Aside0.mk (below_step HB.out hb); have n1_ := Aside0.mk (blk_below BK6.out hb); have BK7 := Aside0.mk hbox; clear HB BK6; have HB := n0_; have BK6 := n1_; clear n0_ n1_ hb hbox hg)
    | ((with_reducible refine gate_dst (N := 8) rfl ?_); refine box_event ?hg (N := 8) ?hd (cs := bal z8 z8) (t := 69) ?hr ?_; (case hd => rfl); (case hg => rfl); (case hr => first | (go_simp; rfl) | kernel_rfl); intro g8 hg w3 hbox hb; have NE86 : Aside0 (g8 ≠ g6) := Aside0.mk (by rw [hg]; exact Nat.ne_of_gt (blk_lt BK6.out)); have NE87 : Aside0 (g8 ≠ g7) := Aside0.mk (by rw [hg]; exact Nat.ne_of_gt (blk_lt BK7.out)); have GE8 : Aside0 (w.heap.size ≤ g8) := Aside0.mk (by rw [hg]; exact HB.out.size); have n0_ := Aside0.mk (below_step HB.out hb); have n1_ := Aside0.mk (blk_below BK6.out hb); have n2_ := Aside0.mk (blk_below BK7.out hb); have BK8 := Aside0.mk hbox; clear HB BK6 BK7; have HB := n0_; have BK6 := n1_; have BK7 := n2_; clear n0_ n1_ n2_ hb hbox hg)
    | ((with_reducible refine gate_callee (f := 18) rfl ?_); refine goesL_ (some 17) rfl rfl Try.func18 (by kernel_rfl) rfl #[.slice A0 l0.length c0, .slice A1 l1.length c1] rfl (by (try simp only [List.map_toArray, List.map_cons, List.map_nil]); first | done | rfl) ?_; (refine (votes_Validate.calls k _ _ l0 _ _ l1 0 0 _ (Kd.C_below HR0.out HB.out) HC0.out (Kd.C_below HR1.out HB.out) HC1.out A2.out).mono ?_); rintro e w4 ⟨rfl, hb⟩; refine ⟨_, rfl, ?_⟩; have n0_ := Aside0.mk (below_step HB.out hb); have n1_ := Aside0.mk (blk_below BK6.out hb); have n2_ := Aside0.mk (blk_below BK7.out hb); have n3_ := Aside0.mk (blk_below BK8.out hb); clear HB BK6 BK7 BK8; have HB := n0_; have BK6 := n1_; have BK7 := n2_; have BK8 := n3_; clear n0_ n1_ n2_ n3_ hb)
    | ((with_reducible refine gate_dst (N := 9) rfl ?_); refine box_event ?hg (N := 9) ?hd (cs := #[.int .i64 0, .int .i64 0]) (t := 25) ?hr ?_; (case hd => rfl); (case hg => rfl); (case hr => first | (go_simp; rfl) | kernel_rfl); intro g9 hg w5 hbox hb; have NE96 : Aside0 (g9 ≠ g6) := Aside0.mk (by rw [hg]; exact Nat.ne_of_gt (blk_lt BK6.out)); have NE97 : Aside0 (g9 ≠ g7) := Aside0.mk (by rw [hg]; exact Nat.ne_of_gt (blk_lt BK7.out)); have NE98 : Aside0 (g9 ≠ g8) := Aside0.mk (by rw [hg]; exact Nat.ne_of_gt (blk_lt BK8.out)); have GE9 : Aside0 (w.heap.size ≤ g9) := Aside0.mk (by rw [hg]; exact HB.out.size); have n0_ := Aside0.mk (below_step HB.out hb); have n1_ := Aside0.mk (blk_below BK6.out hb); have n2_ := Aside0.mk (blk_below BK7.out hb); have n3_ := Aside0.mk (blk_below BK8.out hb); have BK9 := Aside0.mk hbox; clear HB BK6 BK7 BK8; have HB := n0_; have BK6 := n1_; have BK7 := n2_; have BK8 := n3_; clear n0_ n1_ n2_ n3_ hb hbox hg; have hc90 := (blk_cell BK9.out 0).trans rfl; have hc91 := (blk_cell BK9.out 1).trans rfl; have hf90 := blk_frozen BK9.out 0; have hf91 := blk_frozen BK9.out 1; have NE98' := NE98.out; have NE89' := Ne.symm NE98'; have NE96' := NE96.out; have NE69' := Ne.symm NE96'; have NE97' := NE97.out; have NE79' := Ne.symm NE97'; have NE86' := NE86.out; have NE68' := Ne.symm NE86'; have NE87' := NE87.out; have NE78' := Ne.symm NE87'; have NE76' := NE76.out; have NE67' := Ne.symm NE76')
    | fail)
  go_loopg [10, 11] k (fun kq v10 v11 w' => ∃ (nx r : Int) (la co : List Int), v10 = .int .i64 nx ∧ v11 = .int .i64 r ∧ Aside0 (la.length = 8) ∧ Aside0 (co.length = 8) ∧ Aside0 (votes_count.l0 kq l0 l1 a2 r nx la co = some (la', co', f1, f2)) ∧ Aside0 (kq ≤ k) ∧ Aside0 (w'.heap[g6]? = some (.cells (bal z8 z8) 69 (0, 0))) ∧ Aside0 (w'.heap[g7]? = some (.cells #[.int .i64 0, .int .i64 0] 25 (0, 0))) ∧ Aside0 (w'.heap[g8]? = some (.cells (bal la co) 69 (0, 0))) ∧ Aside0 (Below w.heap.size w w'))
  case atStart => exact ⟨0, 0, z8, z8, rfl, rfl, ⟨rfl⟩, ⟨rfl⟩, H', ⟨Nat.le_refl _⟩, ⟨by (with_reducible repeat (first | refine blk_drewN ?_ _ | refine blk_drew ?_ | refine blk_alloc ?_ _ | refine blk_far ?_ (by assumption) _)); exact BK6.out⟩, ⟨by (with_reducible repeat (first | refine blk_drewN ?_ _ | refine blk_drew ?_ | refine blk_alloc ?_ _ | refine blk_far ?_ (by assumption) _)); exact BK7.out⟩, ⟨by (with_reducible repeat (first | refine blk_drewN ?_ _ | refine blk_drew ?_ | refine blk_alloc ?_ _ | refine blk_far ?_ (by assumption) _)); exact BK8.out⟩, ⟨by repeat (first | (with_reducible first | exact HB.out | apply below_alloc | apply pw_below_drewN | apply below_drew1 | refine below_set ?_ GE6.out | refine below_set ?_ GE7.out | refine below_set ?_ GE8.out | refine below_set ?_ GE9.out) | exact HB.out)⟩⟩
  case round =>
    clear H'
    obtain ⟨nx, r, la, co, rfl, rfl, L1, L2, HA, HK1, BK6, BK7, BK8, HB⟩ := hrel
    cases gk with
    | zero => exact absurd HA.out (by simp [votes_count.l0])
    | succ k1 =>
      have H := HA.out
      clear HA
      simp only [votes_count.l0] at H
      by_cases d1 : r ≤ a2
      · rw [if_pos d1] at H
        have d1b : decide (r ≤ a2) = true := decide_eq_true d1
        clear d1
        by_cases d2 : 0 ≤ r
        · rw [if_pos d2] at H
          by_cases d3 : r < (l1.length : Int)
          · rw [if_pos d3] at H
            obtain ⟨ad1, e1, hx1⟩ := Kd.at_bool HR1.out r d2 d3
            cases e1
            replace hx1 := (HB.out.cell (World.block_lt_of_cell? w _ hx1)).trans hx1
            have d2p := eq_true d2
            have d3p := eq_true d3
            clear d2 d3
            by_cases d4 : rdOf false l1 r = true
            · rw [if_pos d4] at H
              rw [d4] at hx1
              clear d4
              have H' := Aside0.mk H
              clear H
              go_wp2
              go_loopg [10] k1 (fun kq v10 w' => ∃ (nx : Int) (la co : List Int), v10 = .int .i64 nx ∧ Aside0 (la.length = 8) ∧ Aside0 (co.length = 8) ∧ Aside0 (votes_count.l2 kq l0 l1 a2 r nx la co = some (la', co', f1, f2)) ∧ Aside0 (kq ≤ k1) ∧ Aside0 (w'.heap[g6]? = some (.cells (bal z8 z8) 69 (0, 0))) ∧ Aside0 (w'.heap[g7]? = some (.cells #[.int .i64 0, .int .i64 0] 25 (0, 0))) ∧ Aside0 (w'.heap[g8]? = some (.cells (bal la co) 69 (0, 0))) ∧ Aside0 (Below w.heap.size w w'))
              case atStart => exact ⟨nx, la, co, rfl, L1, L2, H', ⟨Nat.le_refl _⟩, ⟨by (with_reducible repeat (first | refine blk_drewN ?_ _ | refine blk_drew ?_ | refine blk_alloc ?_ _ | refine blk_far ?_ (by assumption) _)); exact BK6.out⟩, ⟨by (with_reducible repeat (first | refine blk_drewN ?_ _ | refine blk_drew ?_ | refine blk_alloc ?_ _ | refine blk_far ?_ (by assumption) _)); exact BK7.out⟩, ⟨by (with_reducible repeat (first | refine blk_drewN ?_ _ | refine blk_drew ?_ | refine blk_alloc ?_ _ | refine blk_far ?_ (by assumption) _)); exact BK8.out⟩, ⟨by repeat (first | (with_reducible first | exact HB.out | apply below_alloc | apply pw_below_drewN | apply below_drew1 | refine below_set ?_ GE6.out | refine below_set ?_ GE7.out | refine below_set ?_ GE8.out | refine below_set ?_ GE9.out) | exact HB.out)⟩⟩
              case round =>
                clear H'
                obtain ⟨nx2, la2, co2, rfl, M1, M2, HA, HK2, BK6, BK7, BK8, HB⟩ := hrel
                cases gk with
                | zero => exact absurd HA.out (by simp [votes_count.l2])
                | succ k2 =>
                  have H := HA.out
                  clear HA
                  simp only [votes_count.l2] at H
                  by_cases e1 : nx2 < (l0.length : Int)
                  · rw [if_pos e1] at H
                    by_cases e2 : 0 ≤ nx2
                    · rw [if_pos e2] at H
                      obtain ⟨ad2, e3, hy0, hy1, hy2⟩ := at_T35 HR0.out nx2 e2 e1
                      cases e3
                      replace hy0 := (HB.out.cell (World.block_lt_of_cell? w _ hy0)).trans hy0
                      replace hy1 := (HB.out.cell (World.block_lt_of_cell? w _ hy1)).trans hy1
                      replace hy2 := (HB.out.cell (World.block_lt_of_cell? w _ hy2)).trans hy2
                      have e1b : decide (nx2 < (l0.length : Int)) = true := decide_eq_true e1
                      have e1p := eq_true e1
                      have e2p := eq_true e2
                      clear e1 e2
                      by_cases e4 : (rd_T35 l0 nx2).f1 = r
                      · rw [if_pos e4] at H
                        have e4b : ((rd_T35 l0 nx2).f1 == r) = true := beq_iff_eq.mpr e4
                        clear e4
                        by_cases e5 : 0 ≤ (rd_T35 l0 nx2).f0 ∧ (rd_T35 l0 nx2).f0 < 8
                        · rw [if_pos e5] at H
                          obtain ⟨m, hm⟩ := Int.eq_ofNat_of_zero_le e5.1
                          have hm8 : m < 8 := by have := e5.2; omega
                          rw [hm, Int.toNat_natCast] at H
                          rw [hm] at hy0
                          clear e5 hm
                          have H' := Aside0.mk H
                          clear H
                          have u1 := (blk_cell BK8.out m).trans (bal_get1 M1.out hm8)
                          have u2 := (blk_cell BK8.out (8 + m)).trans (bal_get2 M1.out M2.out hm8)
                          have u3 := blk_frozen BK8.out m
                          have u4 := blk_frozen BK8.out (8 + m)
                          have hm8p := eq_true hm8
                          go_wp2_with (first | ((with_reducible refine gate_dst (N := 14) rfl ?_); refine box_event ?hg (N := 14) ?hd (cs := #[.int .i64 0, .int .i64 0, .int .i64 0]) (t := 35) ?hr ?_; (case hd => rfl); (case hg => rfl); (case hr => first | (go_simp; rfl) | kernel_rfl); intro g14 hg w6 hbox hb; have NE148 : g14 ≠ g8 := (by rw [hg]; exact Nat.ne_of_gt (blk_lt BK8.out)); have NE814 := Ne.symm NE148; have NE146 : g6 ≠ g14 := (by rw [hg]; exact Nat.ne_of_lt (blk_lt BK6.out)); have NE147 : g7 ≠ g14 := (by rw [hg]; exact Nat.ne_of_lt (blk_lt BK7.out)); have GE14 : Aside0 (w.heap.size ≤ g14) := Aside0.mk (by rw [hg]; exact HB.out.size); have n0_ := Aside0.mk (below_step HB.out hb); have n1_ := Aside0.mk (blk_below BK6.out hb); have n2_ := Aside0.mk (blk_below BK7.out hb); have n3_ := Aside0.mk (blk_below BK8.out hb); have n4_ := pw_cell_below hb hy0; have n5_ := pw_cell_below hb hy1; have n6_ := pw_cell_below hb hy2; have n7_ := pw_cell_below hb u1; have n8_ := pw_cell_below hb u2; clear HB BK6 BK7 BK8 hy0 hy1 hy2 u1 u2 u3 u4; have HB := n0_; have BK6 := n1_; have BK7 := n2_; have BK8 := n3_; have hy0 := n4_; have hy1 := n5_; have hy2 := n6_; have u1 := n7_; have u2 := n8_; have u3 := blk_frozen BK8.out m; have u4 := blk_frozen BK8.out (8 + m); have BK14 := Aside0.mk hbox; have y0 := (blk_cell BK14.out 0).trans rfl; have y1 := (blk_cell BK14.out 1).trans rfl; have y2 := (blk_cell BK14.out 2).trans rfl; have y3 := blk_frozen BK14.out 0; have y4 := blk_frozen BK14.out 1; have y5 := blk_frozen BK14.out 2; clear n0_ n1_ n2_ n3_ n4_ n5_ n6_ n7_ n8_ hb hbox hg) | fail)
                          go_region
                          go_wp2
                          go_roundg k2
                          case measure => omega
                          case rel => exact ⟨wrap64 (nx2 + 1), la2.set m (rd_T35 l0 nx2).f2, co2.set m (rd_T35 l0 nx2).f2, rfl, ⟨by rw [List.length_set]; exact M1.out⟩, ⟨by rw [List.length_set]; exact M2.out⟩, H', ⟨by have := HK2.out; omega⟩, ⟨by (with_reducible repeat (first | refine blk_drewN ?_ _ | refine blk_drew ?_ | refine blk_alloc ?_ _ | refine blk_far ?_ (by assumption) _)); exact BK6.out⟩, ⟨by (with_reducible repeat (first | refine blk_drewN ?_ _ | refine blk_drew ?_ | refine blk_alloc ?_ _ | refine blk_far ?_ (by assumption) _)); exact BK7.out⟩, ⟨by (with_reducible repeat (first | refine blk_drewN ?_ _ | refine blk_drew ?_ | refine blk_alloc ?_ _ | refine blk_far ?_ (by assumption) _)); refine blk_put ?_ (8 + m) _ (bal_set2 (by rw [List.length_set]; exact M1.out)); (with_reducible repeat (first | refine blk_drewN ?_ _ | refine blk_drew ?_ | refine blk_alloc ?_ _ | refine blk_far ?_ (by assumption) _)); refine blk_put ?_ m _ (bal_set1 M1.out hm8); (with_reducible repeat (first | refine blk_drewN ?_ _ | refine blk_drew ?_ | refine blk_alloc ?_ _ | refine blk_far ?_ (by assumption) _)); exact BK8.out⟩, ⟨by repeat (first | (with_reducible first | exact HB.out | apply below_alloc | apply pw_below_drewN | apply below_drew1 | refine below_set ?_ GE8.out | refine below_set ?_ GE14.out) | exact HB.out)⟩⟩
                        · rw [if_neg e5] at H
                          exact absurd H (by simp)
                      · rw [if_neg e4] at H
                        have e4b : ((rd_T35 l0 nx2).f1 == r) = false := beq_eq_false_iff_ne.mpr e4
                        clear e4
                        have H' := Aside0.mk H
                        clear H
                        go_wp2
                        go_roundg k2
                        case measure => have := HK2.out; omega
                        case rel => exact ⟨nx2, wrap64 (r + 1), la2, co2, rfl, rfl, M1, M2, H', ⟨by have := HK2.out; have := HK1.out; omega⟩, ⟨by (with_reducible repeat (first | refine blk_drewN ?_ _ | refine blk_drew ?_ | refine blk_alloc ?_ _ | refine blk_far ?_ (by assumption) _)); exact BK6.out⟩, ⟨by (with_reducible repeat (first | refine blk_drewN ?_ _ | refine blk_drew ?_ | refine blk_alloc ?_ _ | refine blk_far ?_ (by assumption) _)); exact BK7.out⟩, ⟨by (with_reducible repeat (first | refine blk_drewN ?_ _ | refine blk_drew ?_ | refine blk_alloc ?_ _ | refine blk_far ?_ (by assumption) _)); exact BK8.out⟩, ⟨by repeat (first | (with_reducible first | exact HB.out | apply below_alloc | apply pw_below_drewN | apply below_drew1 | refine below_set ?_ GE6.out | refine below_set ?_ GE7.out | refine below_set ?_ GE8.out | refine below_set ?_ GE9.out) | exact HB.out)⟩⟩
                    · rw [if_neg e2] at H
                      exact absurd H (by simp)
                  · rw [if_neg e1] at H
                    have e1b : decide (nx2 < (l0.length : Int)) = false := decide_eq_false e1
                    clear e1
                    have H' := Aside0.mk H
                    clear H
                    go_wp2
                    go_roundg k2
                    case measure => have := HK2.out; omega
                    case rel => exact ⟨nx2, wrap64 (r + 1), la2, co2, rfl, rfl, M1, M2, H', ⟨by have := HK2.out; have := HK1.out; omega⟩, ⟨by (with_reducible repeat (first | refine blk_drewN ?_ _ | refine blk_drew ?_ | refine blk_alloc ?_ _ | refine blk_far ?_ (by assumption) _)); exact BK6.out⟩, ⟨by (with_reducible repeat (first | refine blk_drewN ?_ _ | refine blk_drew ?_ | refine blk_alloc ?_ _ | refine blk_far ?_ (by assumption) _)); exact BK7.out⟩, ⟨by (with_reducible repeat (first | refine blk_drewN ?_ _ | refine blk_drew ?_ | refine blk_alloc ?_ _ | refine blk_far ?_ (by assumption) _)); exact BK8.out⟩, ⟨by repeat (first | (with_reducible first | exact HB.out | apply below_alloc | apply pw_below_drewN | apply below_drew1 | refine below_set ?_ GE6.out | refine below_set ?_ GE7.out | refine below_set ?_ GE8.out | refine below_set ?_ GE9.out) | exact HB.out)⟩⟩
              
            · rw [if_neg d4] at H
              rw [Bool.eq_false_iff.mpr d4] at hx1
              clear d4
              have H' := Aside0.mk H
              clear H
              go_wp2_with (first | ((with_reducible refine gate_dst (N := 44) rfl ?_); refine wpList_load_part rfl 67 (.tmp 43) rfl g8 8 8 rfl 69 (bal la co) (0, 0) _ BK8.out Try.underlying67 rfl (by kernel_rfl) (by rw [bal_size, L1.out, L2.out]; exact Nat.le_refl _) ?_; rw [bal_part L1.out L2.out]) | fail)
              go_loopg [45] 8 (fun kq v45 w' => ∃ (j : Nat), v45 = .int .i64 (j : Int) ∧ Aside0 (j + kq = 8) ∧ Aside0 (w'.heap[g6]? = some (.cells (bal z8 z8) 69 (0, 0))) ∧ Aside0 (w'.heap[g7]? = some (.cells #[.int .i64 0, .int .i64 0] 25 (0, 0))) ∧ Aside0 (w'.heap[g8]? = some (.cells (bal la (mixd co j)) 69 (0, 0))) ∧ Aside0 (Below w.heap.size w w'))
              case atStart => exact ⟨0, rfl, ⟨rfl⟩, ⟨by (with_reducible repeat (first | refine blk_drewN ?_ _ | refine blk_drew ?_ | refine blk_alloc ?_ _ | refine blk_far ?_ (by assumption) _)); exact BK6.out⟩, ⟨by (with_reducible repeat (first | refine blk_drewN ?_ _ | refine blk_drew ?_ | refine blk_alloc ?_ _ | refine blk_far ?_ (by assumption) _)); exact BK7.out⟩, ⟨by (with_reducible repeat (first | refine blk_drewN ?_ _ | refine blk_drew ?_ | refine blk_alloc ?_ _ | refine blk_far ?_ (by assumption) _)); exact BK8.out⟩, ⟨by repeat (first | (with_reducible first | exact HB.out | apply below_alloc | apply pw_below_drewN | apply below_drew1 | refine below_set ?_ GE6.out | refine below_set ?_ GE7.out | refine below_set ?_ GE8.out | refine below_set ?_ GE9.out) | exact HB.out)⟩⟩
              case round =>
                obtain ⟨j, rfl, HJ, BK6, BK7, BK8, HB⟩ := hrel
                by_cases x1 : j < 8
                · have x1b : decide ((j : Int) < 8) = true := decide_eq_true (by omega)
                  have x1p := eq_true x1
                  obtain ⟨x, HX⟩ : ∃ x : Int, Aside0 (co.getD j 0 = x) := ⟨_, ⟨rfl⟩⟩
                  have hix : ∀ W : World, (Instr.index 67 (.agg (co8 co)) (.int .i64 (j : Int))).run Try.prog W = .ok (.int .i64 x) W := fun W => by rw [← HX.out]; exact run_index8 L2.out j x1 W
                  have u1 := (blk_cell BK8.out (8 + j)).trans (bal_get2 L1.out (by rw [mixd_len]; exact L2.out) x1)
                  have u2 := blk_frozen BK8.out (8 + j)
                  by_cases y1 : 0 < x
                  · have ED : Aside0 (dimV x = 0) := ⟨by unfold dimV; rw [if_pos y1]; simp [wrap64]⟩
                    have y1p := eq_true y1
                    clear y1
                    go_wp2
                    go_roundg (gk - 1)
                    case measure => have := HJ.out; omega
                    case rel => exact ⟨j + 1, by go_num, ⟨by have := HJ.out; omega⟩, ⟨by (with_reducible repeat (first | refine blk_drewN ?_ _ | refine blk_drew ?_ | refine blk_alloc ?_ _ | refine blk_far ?_ (by assumption) _)); exact BK6.out⟩, ⟨by (with_reducible repeat (first | refine blk_drewN ?_ _ | refine blk_drew ?_ | refine blk_alloc ?_ _ | refine blk_far ?_ (by assumption) _)); exact BK7.out⟩, ⟨by rw [← mixd_set (show j < co.length by have := L2.out; omega), HX.out, ED.out]; (with_reducible repeat (first | refine blk_drewN ?_ _ | refine blk_drew ?_ | refine blk_alloc ?_ _ | refine blk_far ?_ (by assumption) _)); refine blk_put ?_ (8 + j) _ (bal_set2 L1.out); (with_reducible repeat (first | refine blk_drewN ?_ _ | refine blk_drew ?_ | refine blk_alloc ?_ _ | refine blk_far ?_ (by assumption) _)); exact BK8.out⟩, ⟨by repeat (first | (with_reducible first | exact HB.out | apply below_alloc | apply pw_below_drewN | apply below_drew1 | refine below_set ?_ GE6.out | refine below_set ?_ GE7.out | refine below_set ?_ GE8.out | refine below_set ?_ GE9.out) | exact HB.out)⟩⟩
                  · have ED : Aside0 (dimV x = wrap64 (wrap64 (Int.tdiv x 2) * 2)) := ⟨by unfold dimV; rw [if_neg y1]⟩
                    have y1p := eq_false y1
                    clear y1
                    go_wp2
                    go_roundg (gk - 1)
                    case measure => have := HJ.out; omega
                    case rel => exact ⟨j + 1, by go_num, ⟨by have := HJ.out; omega⟩, ⟨by (with_reducible repeat (first | refine blk_drewN ?_ _ | refine blk_drew ?_ | refine blk_alloc ?_ _ | refine blk_far ?_ (by assumption) _)); exact BK6.out⟩, ⟨by (with_reducible repeat (first | refine blk_drewN ?_ _ | refine blk_drew ?_ | refine blk_alloc ?_ _ | refine blk_far ?_ (by assumption) _)); exact BK7.out⟩, ⟨by rw [← mixd_set (show j < co.length by have := L2.out; omega), HX.out, ED.out]; (with_reducible repeat (first | refine blk_drewN ?_ _ | refine blk_drew ?_ | refine blk_alloc ?_ _ | refine blk_far ?_ (by assumption) _)); refine blk_put ?_ (8 + j) _ (bal_set2 L1.out); (with_reducible repeat (first | refine blk_drewN ?_ _ | refine blk_drew ?_ | refine blk_alloc ?_ _ | refine blk_far ?_ (by assumption) _)); exact BK8.out⟩, ⟨by repeat (first | (with_reducible first | exact HB.out | apply below_alloc | apply pw_below_drewN | apply below_drew1 | refine below_set ?_ GE6.out | refine below_set ?_ GE7.out | refine below_set ?_ GE8.out | refine below_set ?_ GE9.out) | exact HB.out)⟩⟩
                · have x1b : decide ((j : Int) < 8) = false := decide_eq_false (by omega)
                  have hj8 : co.length ≤ j := by have := L2.out; omega
                  have BK8' := BK8.out
                  clear BK8
                  rw [mixd_all hj8] at BK8'
                  have BK8 := Aside0.mk BK8'
                  clear BK8' hj8 HJ x1
                  go_wp2
                  go_loopg [10] k1 (fun kq v10 w' => ∃ (nx : Int) (la co : List Int), v10 = .int .i64 nx ∧ Aside0 (la.length = 8) ∧ Aside0 (co.length = 8) ∧ Aside0 (votes_count.l2 kq l0 l1 a2 r nx la co = some (la', co', f1, f2)) ∧ Aside0 (kq ≤ k1) ∧ Aside0 (w'.heap[g6]? = some (.cells (bal z8 z8) 69 (0, 0))) ∧ Aside0 (w'.heap[g7]? = some (.cells #[.int .i64 0, .int .i64 0] 25 (0, 0))) ∧ Aside0 (w'.heap[g8]? = some (.cells (bal la co) 69 (0, 0))) ∧ Aside0 (Below w.heap.size w w'))
                  case atStart => exact ⟨nx, la, (co.map dimV), rfl, L1, ⟨by rw [List.length_map]; exact L2.out⟩, H', ⟨Nat.le_refl _⟩, ⟨by (with_reducible repeat (first | refine blk_drewN ?_ _ | refine blk_drew ?_ | refine blk_alloc ?_ _ | refine blk_far ?_ (by assumption) _)); exact BK6.out⟩, ⟨by (with_reducible repeat (first | refine blk_drewN ?_ _ | refine blk_drew ?_ | refine blk_alloc ?_ _ | refine blk_far ?_ (by assumption) _)); exact BK7.out⟩, ⟨by (with_reducible repeat (first | refine blk_drewN ?_ _ | refine blk_drew ?_ | refine blk_alloc ?_ _ | refine blk_far ?_ (by assumption) _)); exact BK8.out⟩, ⟨by repeat (first | (with_reducible first | exact HB.out | apply below_alloc | apply pw_below_drewN | apply below_drew1 | refine below_set ?_ GE6.out | refine below_set ?_ GE7.out | refine below_set ?_ GE8.out | refine below_set ?_ GE9.out) | exact HB.out)⟩⟩
                  case round =>
                    clear H'
                    obtain ⟨nx2, la2, co2, rfl, M1, M2, HA, HK2, BK6, BK7, BK8, HB⟩ := hrel
                    cases gk with
                    | zero => exact absurd HA.out (by simp [votes_count.l2])
                    | succ k2 =>
                      have H := HA.out
                      clear HA
                      simp only [votes_count.l2] at H
                      by_cases e1 : nx2 < (l0.length : Int)
                      · rw [if_pos e1] at H
                        by_cases e2 : 0 ≤ nx2
                        · rw [if_pos e2] at H
                          obtain ⟨ad2, e3, hy0, hy1, hy2⟩ := at_T35 HR0.out nx2 e2 e1
                          cases e3
                          replace hy0 := (HB.out.cell (World.block_lt_of_cell? w _ hy0)).trans hy0
                          replace hy1 := (HB.out.cell (World.block_lt_of_cell? w _ hy1)).trans hy1
                          replace hy2 := (HB.out.cell (World.block_lt_of_cell? w _ hy2)).trans hy2
                          have e1b : decide (nx2 < (l0.length : Int)) = true := decide_eq_true e1
                          have e1p := eq_true e1
                          have e2p := eq_true e2
                          clear e1 e2
                          by_cases e4 : (rd_T35 l0 nx2).f1 = r
                          · rw [if_pos e4] at H
                            have e4b : ((rd_T35 l0 nx2).f1 == r) = true := beq_iff_eq.mpr e4
                            clear e4
                            by_cases e5 : 0 ≤ (rd_T35 l0 nx2).f0 ∧ (rd_T35 l0 nx2).f0 < 8
                            · rw [if_pos e5] at H
                              obtain ⟨m, hm⟩ := Int.eq_ofNat_of_zero_le e5.1
                              have hm8 : m < 8 := by have := e5.2; omega
                              rw [hm, Int.toNat_natCast] at H
                              rw [hm] at hy0
                              clear e5 hm
                              have H' := Aside0.mk H
                              clear H
                              have u1 := (blk_cell BK8.out m).trans (bal_get1 M1.out hm8)
                              have u2 := (blk_cell BK8.out (8 + m)).trans (bal_get2 M1.out M2.out hm8)
                              have u3 := blk_frozen BK8.out m
                              have u4 := blk_frozen BK8.out (8 + m)
                              have hm8p := eq_true hm8
                              go_wp2_with (first | ((with_reducible refine gate_dst (N := 14) rfl ?_); refine box_event ?hg (N := 14) ?hd (cs := #[.int .i64 0, .int .i64 0, .int .i64 0]) (t := 35) ?hr ?_; (case hd => rfl); (case hg => rfl); (case hr => first | (go_simp; rfl) | kernel_rfl); intro g14 hg w6 hbox hb; have NE148 : g14 ≠ g8 := (by rw [hg]; exact Nat.ne_of_gt (blk_lt BK8.out)); have NE814 := Ne.symm NE148; have NE146 : g6 ≠ g14 := (by rw [hg]; exact Nat.ne_of_lt (blk_lt BK6.out)); have NE147 : g7 ≠ g14 := (by rw [hg]; exact Nat.ne_of_lt (blk_lt BK7.out)); have GE14 : Aside0 (w.heap.size ≤ g14) := Aside0.mk (by rw [hg]; exact HB.out.size); have n0_ := Aside0.mk (below_step HB.out hb); have n1_ := Aside0.mk (blk_below BK6.out hb); have n2_ := Aside0.mk (blk_below BK7.out hb); have n3_ := Aside0.mk (blk_below BK8.out hb); have n4_ := pw_cell_below hb hy0; have n5_ := pw_cell_below hb hy1; have n6_ := pw_cell_below hb hy2; have n7_ := pw_cell_below hb u1; have n8_ := pw_cell_below hb u2; clear HB BK6 BK7 BK8 hy0 hy1 hy2 u1 u2 u3 u4; have HB := n0_; have BK6 := n1_; have BK7 := n2_; have BK8 := n3_; have hy0 := n4_; have hy1 := n5_; have hy2 := n6_; have u1 := n7_; have u2 := n8_; have u3 := blk_frozen BK8.out m; have u4 := blk_frozen BK8.out (8 + m); have BK14 := Aside0.mk hbox; have y0 := (blk_cell BK14.out 0).trans rfl; have y1 := (blk_cell BK14.out 1).trans rfl; have y2 := (blk_cell BK14.out 2).trans rfl; have y3 := blk_frozen BK14.out 0; have y4 := blk_frozen BK14.out 1; have y5 := blk_frozen BK14.out 2; clear n0_ n1_ n2_ n3_ n4_ n5_ n6_ n7_ n8_ hb hbox hg) | fail)
                              go_region
                              go_wp2
                              go_roundg k2
                              case measure => omega
                              case rel => exact ⟨wrap64 (nx2 + 1), la2.set m (rd_T35 l0 nx2).f2, co2.set m (rd_T35 l0 nx2).f2, rfl, ⟨by rw [List.length_set]; exact M1.out⟩, ⟨by rw [List.length_set]; exact M2.out⟩, H', ⟨by have := HK2.out; omega⟩, ⟨by (with_reducible repeat (first | refine blk_drewN ?_ _ | refine blk_drew ?_ | refine blk_alloc ?_ _ | refine blk_far ?_ (by assumption) _)); exact BK6.out⟩, ⟨by (with_reducible repeat (first | refine blk_drewN ?_ _ | refine blk_drew ?_ | refine blk_alloc ?_ _ | refine blk_far ?_ (by assumption) _)); exact BK7.out⟩, ⟨by (with_reducible repeat (first | refine blk_drewN ?_ _ | refine blk_drew ?_ | refine blk_alloc ?_ _ | refine blk_far ?_ (by assumption) _)); refine blk_put ?_ (8 + m) _ (bal_set2 (by rw [List.length_set]; exact M1.out)); (with_reducible repeat (first | refine blk_drewN ?_ _ | refine blk_drew ?_ | refine blk_alloc ?_ _ | refine blk_far ?_ (by assumption) _)); refine blk_put ?_ m _ (bal_set1 M1.out hm8); (with_reducible repeat (first | refine blk_drewN ?_ _ | refine blk_drew ?_ | refine blk_alloc ?_ _ | refine blk_far ?_ (by assumption) _)); exact BK8.out⟩, ⟨by repeat (first | (with_reducible first | exact HB.out | apply below_alloc | apply pw_below_drewN | apply below_drew1 | refine below_set ?_ GE8.out | refine below_set ?_ GE14.out) | exact HB.out)⟩⟩
                            · rw [if_neg e5] at H
                              exact absurd H (by simp)
                          · rw [if_neg e4] at H
                            have e4b : ((rd_T35 l0 nx2).f1 == r) = false := beq_eq_false_iff_ne.mpr e4
                            clear e4
                            have H' := Aside0.mk H
                            clear H
                            go_wp2
                            go_roundg k2
                            case measure => have := HK2.out; omega
                            case rel => exact ⟨nx2, wrap64 (r + 1), la2, co2, rfl, rfl, M1, M2, H', ⟨by have := HK2.out; have := HK1.out; omega⟩, ⟨by (with_reducible repeat (first | refine blk_drewN ?_ _ | refine blk_drew ?_ | refine blk_alloc ?_ _ | refine blk_far ?_ (by assumption) _)); exact BK6.out⟩, ⟨by (with_reducible repeat (first | refine blk_drewN ?_ _ | refine blk_drew ?_ | refine blk_alloc ?_ _ | refine blk_far ?_ (by assumption) _)); exact BK7.out⟩, ⟨by (with_reducible repeat (first | refine blk_drewN ?_ _ | refine blk_drew ?_ | refine blk_alloc ?_ _ | refine blk_far ?_ (by assumption) _)); exact BK8.out⟩, ⟨by repeat (first | (with_reducible first | exact HB.out | apply below_alloc | apply pw_below_drewN | apply below_drew1 | refine below_set ?_ GE6.out | refine below_set ?_ GE7.out | refine below_set ?_ GE8.out | refine below_set ?_ GE9.out) | exact HB.out)⟩⟩
                        · rw [if_neg e2] at H
                          exact absurd H (by simp)
                      · rw [if_neg e1] at H
                        have e1b : decide (nx2 < (l0.length : Int)) = false := decide_eq_false e1
                        clear e1
                        have H' := Aside0.mk H
                        clear H
                        go_wp2
                        go_roundg k2
                        case measure => have := HK2.out; omega
                        case rel => exact ⟨nx2, wrap64 (r + 1), la2, co2, rfl, rfl, M1, M2, H', ⟨by have := HK2.out; have := HK1.out; omega⟩, ⟨by (with_reducible repeat (first | refine blk_drewN ?_ _ | refine blk_drew ?_ | refine blk_alloc ?_ _ | refine blk_far ?_ (by assumption) _)); exact BK6.out⟩, ⟨by (with_reducible repeat (first | refine blk_drewN ?_ _ | refine blk_drew ?_ | refine blk_alloc ?_ _ | refine blk_far ?_ (by assumption) _)); exact BK7.out⟩, ⟨by (with_reducible repeat (first | refine blk_drewN ?_ _ | refine blk_drew ?_ | refine blk_alloc ?_ _ | refine blk_far ?_ (by assumption) _)); exact BK8.out⟩, ⟨by repeat (first | (with_reducible first | exact HB.out | apply below_alloc | apply pw_below_drewN | apply below_drew1 | refine below_set ?_ GE6.out | refine below_set ?_ GE7.out | refine below_set ?_ GE8.out | refine below_set ?_ GE9.out) | exact HB.out)⟩⟩
                  
          · rw [if_neg d3] at H
            exact absurd H (by simp)
        · rw [if_neg d2] at H
          exact absurd H (by simp)
      · rw [if_neg d1] at H
        have d1b : decide (r ≤ a2) = false := decide_eq_false d1
        clear d1
        simp only [Option.some.injEq, Prod.mk.injEq] at H
        obtain ⟨rfl, rfl, rfl, rfl⟩ := H
        obtain ⟨a0, a1, a2_, a3, a4, a5, a6, a7, rfl⟩ := len8 la L1.out
        obtain ⟨b0, b1, b2, b3, b4, b5, b6, b7, rfl⟩ := len8 co L2.out
        rw [BZ] at BK6
        have BK8' : Aside0 (wr.heap[g8]? = some (.cells #[.int .i64 a0, .int .i64 a1, .int .i64 a2_, .int .i64 a3, .int .i64 a4, .int .i64 a5, .int .i64 a6, .int .i64 a7, .int .i64 b0, .int .i64 b1, .int .i64 b2, .int .i64 b3, .int .i64 b4, .int .i64 b5, .int .i64 b6, .int .i64 b7] 69 (0, 0))) := BK8
        clear BK8
        have BK8 := BK8'
        clear BK8'
        have uc0 : wr.cell? ⟨g8, 0, none⟩ = some (.int .i64 a0) := (blk_cell BK8.out 0).trans rfl
        have uc1 : wr.cell? ⟨g8, 1, none⟩ = some (.int .i64 a1) := (blk_cell BK8.out 1).trans rfl
        have uc2 : wr.cell? ⟨g8, 2, none⟩ = some (.int .i64 a2_) := (blk_cell BK8.out 2).trans rfl
        have uc3 : wr.cell? ⟨g8, 3, none⟩ = some (.int .i64 a3) := (blk_cell BK8.out 3).trans rfl
        have uc4 : wr.cell? ⟨g8, 4, none⟩ = some (.int .i64 a4) := (blk_cell BK8.out 4).trans rfl
        have uc5 : wr.cell? ⟨g8, 5, none⟩ = some (.int .i64 a5) := (blk_cell BK8.out 5).trans rfl
        have uc6 : wr.cell? ⟨g8, 6, none⟩ = some (.int .i64 a6) := (blk_cell BK8.out 6).trans rfl
        have uc7 : wr.cell? ⟨g8, 7, none⟩ = some (.int .i64 a7) := (blk_cell BK8.out 7).trans rfl
        have uc8 : wr.cell? ⟨g8, 8, none⟩ = some (.int .i64 b0) := (blk_cell BK8.out 8).trans rfl
        have uc9 : wr.cell? ⟨g8, 9, none⟩ = some (.int .i64 b1) := (blk_cell BK8.out 9).trans rfl
        have uc10 : wr.cell? ⟨g8, 10, none⟩ = some (.int .i64 b2) := (blk_cell BK8.out 10).trans rfl
        have uc11 : wr.cell? ⟨g8, 11, none⟩ = some (.int .i64 b3) := (blk_cell BK8.out 11).trans rfl
        have uc12 : wr.cell? ⟨g8, 12, none⟩ = some (.int .i64 b4) := (blk_cell BK8.out 12).trans rfl
        have uc13 : wr.cell? ⟨g8, 13, none⟩ = some (.int .i64 b5) := (blk_cell BK8.out 13).trans rfl
        have uc14 : wr.cell? ⟨g8, 14, none⟩ = some (.int .i64 b6) := (blk_cell BK8.out 14).trans rfl
        have uc15 : wr.cell? ⟨g8, 15, none⟩ = some (.int .i64 b7) := (blk_cell BK8.out 15).trans rfl
        have uf0 := blk_frozen BK8.out 0
        have uf1 := blk_frozen BK8.out 1
        have uf2 := blk_frozen BK8.out 2
        have uf3 := blk_frozen BK8.out 3
        have uf4 := blk_frozen BK8.out 4
        have uf5 := blk_frozen BK8.out 5
        have uf6 := blk_frozen BK8.out 6
        have uf7 := blk_frozen BK8.out 7
        have uf8 := blk_frozen BK8.out 8
        have uf9 := blk_frozen BK8.out 9
        have uf10 := blk_frozen BK8.out 10
        have uf11 := blk_frozen BK8.out 11
        have uf12 := blk_frozen BK8.out 12
        have uf13 := blk_frozen BK8.out 13
        have uf14 := blk_frozen BK8.out 14
        have uf15 := blk_frozen BK8.out 15
        have vc0 : wr.cell? ⟨g6, 0, none⟩ = some (.int .i64 0) := (blk_cell BK6.out 0).trans rfl
        have vc1 : wr.cell? ⟨g6, 1, none⟩ = some (.int .i64 0) := (blk_cell BK6.out 1).trans rfl
        have vc2 : wr.cell? ⟨g6, 2, none⟩ = some (.int .i64 0) := (blk_cell BK6.out 2).trans rfl
        have vc3 : wr.cell? ⟨g6, 3, none⟩ = some (.int .i64 0) := (blk_cell BK6.out 3).trans rfl
        have vc4 : wr.cell? ⟨g6, 4, none⟩ = some (.int .i64 0) := (blk_cell BK6.out 4).trans rfl
        have vc5 : wr.cell? ⟨g6, 5, none⟩ = some (.int .i64 0) := (blk_cell BK6.out 5).trans rfl
        have vc6 : wr.cell? ⟨g6, 6, none⟩ = some (.int .i64 0) := (blk_cell BK6.out 6).trans rfl
        have vc7 : wr.cell? ⟨g6, 7, none⟩ = some (.int .i64 0) := (blk_cell BK6.out 7).trans rfl
        have vc8 : wr.cell? ⟨g6, 8, none⟩ = some (.int .i64 0) := (blk_cell BK6.out 8).trans rfl
        have vc9 : wr.cell? ⟨g6, 9, none⟩ = some (.int .i64 0) := (blk_cell BK6.out 9).trans rfl
        have vc10 : wr.cell? ⟨g6, 10, none⟩ = some (.int .i64 0) := (blk_cell BK6.out 10).trans rfl
        have vc11 : wr.cell? ⟨g6, 11, none⟩ = some (.int .i64 0) := (blk_cell BK6.out 11).trans rfl
        have vc12 : wr.cell? ⟨g6, 12, none⟩ = some (.int .i64 0) := (blk_cell BK6.out 12).trans rfl
        have vc13 : wr.cell? ⟨g6, 13, none⟩ = some (.int .i64 0) := (blk_cell BK6.out 13).trans rfl
        have vc14 : wr.cell? ⟨g6, 14, none⟩ = some (.int .i64 0) := (blk_cell BK6.out 14).trans rfl
        have vc15 : wr.cell? ⟨g6, 15, none⟩ = some (.int .i64 0) := (blk_cell BK6.out 15).trans rfl
        have vf0 := blk_frozen BK6.out 0
        have vf1 := blk_frozen BK6.out 1
        have vf2 := blk_frozen BK6.out 2
        have vf3 := blk_frozen BK6.out 3
        have vf4 := blk_frozen BK6.out 4
        have vf5 := blk_frozen BK6.out 5
        have vf6 := blk_frozen BK6.out 6
        have vf7 := blk_frozen BK6.out 7
        have vf8 := blk_frozen BK6.out 8
        have vf9 := blk_frozen BK6.out 9
        have vf10 := blk_frozen BK6.out 10
        have vf11 := blk_frozen BK6.out 11
        have vf12 := blk_frozen BK6.out 12
        have vf13 := blk_frozen BK6.out 13
        have vf14 := blk_frozen BK6.out 14
        have vf15 := blk_frozen BK6.out 15
        have xc0 : wr.cell? ⟨g7, 0, none⟩ = some (.int .i64 0) := (blk_cell BK7.out 0).trans rfl
        have xc1 : wr.cell? ⟨g7, 1, none⟩ = some (.int .i64 0) := (blk_cell BK7.out 1).trans rfl
        have xf0 := blk_frozen BK7.out 0
        have xf1 := blk_frozen BK7.out 1
        go_wp2
        refine bodyPost_ret (results_cc rfl _ _ g6 g7 69 25 #[.int .i64 a0, .int .i64 a1, .int .i64 a2_, .int .i64 a3, .int .i64 a4, .int .i64 a5, .int .i64 a6, .int .i64 a7, .int .i64 b0, .int .i64 b1, .int .i64 b2, .int .i64 b3, .int .i64 b4, .int .i64 b5, .int .i64 b6, .int .i64 b7] #[.int .i64 0, .int .i64 0] (0, 0) (0, 0) _ _ rfl (by (with_reducible repeat (first | refine blk_drewN ?_ _ | refine blk_drew ?_ | refine blk_alloc ?_ _ | refine blk_far ?_ (by assumption) _)); refine blk_put (cs := #[.int .i64 a0, .int .i64 a1, .int .i64 a2_, .int .i64 a3, .int .i64 a4, .int .i64 a5, .int .i64 a6, .int .i64 a7, .int .i64 b0, .int .i64 b1, .int .i64 b2, .int .i64 b3, .int .i64 b4, .int .i64 b5, .int .i64 b6, .int .i64 0]) ?_ 15 _ rfl; (with_reducible repeat (first | refine blk_drewN ?_ _ | refine blk_drew ?_ | refine blk_alloc ?_ _ | refine blk_far ?_ (by assumption) _)); refine blk_put (cs := #[.int .i64 a0, .int .i64 a1, .int .i64 a2_, .int .i64 a3, .int .i64 a4, .int .i64 a5, .int .i64 a6, .int .i64 a7, .int .i64 b0, .int .i64 b1, .int .i64 b2, .int .i64 b3, .int .i64 b4, .int .i64 b5, .int .i64 0, .int .i64 0]) ?_ 14 _ rfl; (with_reducible repeat (first | refine blk_drewN ?_ _ | refine blk_drew ?_ | refine blk_alloc ?_ _ | refine blk_far ?_ (by assumption) _)); refine blk_put (cs := #[.int .i64 a0, .int .i64 a1, .int .i64 a2_, .int .i64 a3, .int .i64 a4, .int .i64 a5, .int .i64 a6, .int .i64 a7, .int .i64 b0, .int .i64 b1, .int .i64 b2, .int .i64 b3, .int .i64 b4, .int .i64 0, .int .i64 0, .int .i64 0]) ?_ 13 _ rfl; (with_reducible repeat (first | refine blk_drewN ?_ _ | refine blk_drew ?_ | refine blk_alloc ?_ _ | refine blk_far ?_ (by assumption) _)); refine blk_put (cs := #[.int .i64 a0, .int .i64 a1, .int .i64 a2_, .int .i64 a3, .int .i64 a4, .int .i64 a5, .int .i64 a6, .int .i64 a7, .int .i64 b0, .int .i64 b1, .int .i64 b2, .int .i64 b3, .int .i64 0, .int .i64 0, .int .i64 0, .int .i64 0]) ?_ 12 _ rfl; (with_reducible repeat (first | refine blk_drewN ?_ _ | refine blk_drew ?_ | refine blk_alloc ?_ _ | refine blk_far ?_ (by assumption) _)); refine blk_put (cs := #[.int .i64 a0, .int .i64 a1, .int .i64 a2_, .int .i64 a3, .int .i64 a4, .int .i64 a5, .int .i64 a6, .int .i64 a7, .int .i64 b0, .int .i64 b1, .int .i64 b2, .int .i64 0, .int .i64 0, .int .i64 0, .int .i64 0, .int .i64 0]) ?_ 11 _ rfl; (with_reducible repeat (first | refine blk_drewN ?_ _ | refine blk_drew ?_ | refine blk_alloc ?_ _ | refine blk_far ?_ (by assumption) _)); refine blk_put (cs := #[.int .i64 a0, .int .i64 a1, .int .i64 a2_, .int .i64 a3, .int .i64 a4, .int .i64 a5, .int .i64 a6, .int .i64 a7, .int .i64 b0, .int .i64 b1, .int .i64 0, .int .i64 0, .int .i64 0, .int .i64 0, .int .i64 0, .int .i64 0]) ?_ 10 _ rfl; (with_reducible repeat (first | refine blk_drewN ?_ _ | refine blk_drew ?_ | refine blk_alloc ?_ _ | refine blk_far ?_ (by assumption) _)); refine blk_put (cs := #[.int .i64 a0, .int .i64 a1, .int .i64 a2_, .int .i64 a3, .int .i64 a4, .int .i64 a5, .int .i64 a6, .int .i64 a7, .int .i64 b0, .int .i64 0, .int .i64 0, .int .i64 0, .int .i64 0, .int .i64 0, .int .i64 0, .int .i64 0]) ?_ 9 _ rfl; (with_reducible repeat (first | refine blk_drewN ?_ _ | refine blk_drew ?_ | refine blk_alloc ?_ _ | refine blk_far ?_ (by assumption) _)); refine blk_put (cs := #[.int .i64 a0, .int .i64 a1, .int .i64 a2_, .int .i64 a3, .int .i64 a4, .int .i64 a5, .int .i64 a6, .int .i64 a7, .int .i64 0, .int .i64 0, .int .i64 0, .int .i64 0, .int .i64 0, .int .i64 0, .int .i64 0, .int .i64 0]) ?_ 8 _ rfl; (with_reducible repeat (first | refine blk_drewN ?_ _ | refine blk_drew ?_ | refine blk_alloc ?_ _ | refine blk_far ?_ (by assumption) _)); refine blk_put (cs := #[.int .i64 a0, .int .i64 a1, .int .i64 a2_, .int .i64 a3, .int .i64 a4, .int .i64 a5, .int .i64 a6, .int .i64 0, .int .i64 0, .int .i64 0, .int .i64 0, .int .i64 0, .int .i64 0, .int .i64 0, .int .i64 0, .int .i64 0]) ?_ 7 _ rfl; (with_reducible repeat (first | refine blk_drewN ?_ _ | refine blk_drew ?_ | refine blk_alloc ?_ _ | refine blk_far ?_ (by assumption) _)); refine blk_put (cs := #[.int .i64 a0, .int .i64 a1, .int .i64 a2_, .int .i64 a3, .int .i64 a4, .int .i64 a5, .int .i64 0, .int .i64 0, .int .i64 0, .int .i64 0, .int .i64 0, .int .i64 0, .int .i64 0, .int .i64 0, .int .i64 0, .int .i64 0]) ?_ 6 _ rfl; (with_reducible repeat (first | refine blk_drewN ?_ _ | refine blk_drew ?_ | refine blk_alloc ?_ _ | refine blk_far ?_ (by assumption) _)); refine blk_put (cs := #[.int .i64 a0, .int .i64 a1, .int .i64 a2_, .int .i64 a3, .int .i64 a4, .int .i64 0, .int .i64 0, .int .i64 0, .int .i64 0, .int .i64 0, .int .i64 0, .int .i64 0, .int .i64 0, .int .i64 0, .int .i64 0, .int .i64 0]) ?_ 5 _ rfl; (with_reducible repeat (first | refine blk_drewN ?_ _ | refine blk_drew ?_ | refine blk_alloc ?_ _ | refine blk_far ?_ (by assumption) _)); refine blk_put (cs := #[.int .i64 a0, .int .i64 a1, .int .i64 a2_, .int .i64 a3, .int .i64 0, .int .i64 0, .int .i64 0, .int .i64 0, .int .i64 0, .int .i64 0, .int .i64 0, .int .i64 0, .int .i64 0, .int .i64 0, .int .i64 0, .int .i64 0]) ?_ 4 _ rfl; (with_reducible repeat (first | refine blk_drewN ?_ _ | refine blk_drew ?_ | refine blk_alloc ?_ _ | refine blk_far ?_ (by assumption) _)); refine blk_put (cs := #[.int .i64 a0, .int .i64 a1, .int .i64 a2_, .int .i64 0, .int .i64 0, .int .i64 0, .int .i64 0, .int .i64 0, .int .i64 0, .int .i64 0, .int .i64 0, .int .i64 0, .int .i64 0, .int .i64 0, .int .i64 0, .int .i64 0]) ?_ 3 _ rfl; (with_reducible repeat (first | refine blk_drewN ?_ _ | refine blk_drew ?_ | refine blk_alloc ?_ _ | refine blk_far ?_ (by assumption) _)); refine blk_put (cs := #[.int .i64 a0, .int .i64 a1, .int .i64 0, .int .i64 0, .int .i64 0, .int .i64 0, .int .i64 0, .int .i64 0, .int .i64 0, .int .i64 0, .int .i64 0, .int .i64 0, .int .i64 0, .int .i64 0, .int .i64 0, .int .i64 0]) ?_ 2 _ rfl; (with_reducible repeat (first | refine blk_drewN ?_ _ | refine blk_drew ?_ | refine blk_alloc ?_ _ | refine blk_far ?_ (by assumption) _)); refine blk_put (cs := #[.int .i64 a0, .int .i64 0, .int .i64 0, .int .i64 0, .int .i64 0, .int .i64 0, .int .i64 0, .int .i64 0, .int .i64 0, .int .i64 0, .int .i64 0, .int .i64 0, .int .i64 0, .int .i64 0, .int .i64 0, .int .i64 0]) ?_ 1 _ rfl; (with_reducible repeat (first | refine blk_drewN ?_ _ | refine blk_drew ?_ | refine blk_alloc ?_ _ | refine blk_far ?_ (by assumption) _)); refine blk_put (cs := #[.int .i64 0, .int .i64 0, .int .i64 0, .int .i64 0, .int .i64 0, .int .i64 0, .int .i64 0, .int .i64 0, .int .i64 0, .int .i64 0, .int .i64 0, .int .i64 0, .int .i64 0, .int .i64 0, .int .i64 0, .int .i64 0]) ?_ 0 _ rfl; (with_reducible repeat (first | refine blk_drewN ?_ _ | refine blk_drew ?_ | refine blk_alloc ?_ _ | refine blk_far ?_ (by assumption) _)); exact BK6.out) Try.underlying69 rfl (by kernel_rfl) rfl (by (with_reducible repeat (first | refine blk_drewN ?_ _ | refine blk_drew ?_ | refine blk_alloc ?_ _ | refine blk_far ?_ (by assumption) _)); refine blk_put (cs := #[.int .i64 0, .int .i64 0]) ?_ 1 _ rfl; (with_reducible repeat (first | refine blk_drewN ?_ _ | refine blk_drew ?_ | refine blk_alloc ?_ _ | refine blk_far ?_ (by assumption) _)); refine blk_put (cs := #[.int .i64 0, .int .i64 0]) ?_ 0 _ rfl; (with_reducible repeat (first | refine blk_drewN ?_ _ | refine blk_drew ?_ | refine blk_alloc ?_ _ | refine blk_far ?_ (by assumption) _)); exact BK7.out) Try.underlying25 rfl (by kernel_rfl)) rfl ?_
        exact ⟨rfl, by repeat (first | (with_reducible first | exact HB.out | apply below_alloc | apply pw_below_drewN | apply below_drew1 | refine below_set ?_ GE6.out | refine below_set ?_ GE7.out | refine below_set ?_ GE8.out | refine below_set ?_ GE9.out) | exact HB.out)⟩
theorem votes_count.calls (k : Nat) (A0 : Option Addr) (c0 : Nat) (l0 : List S35) (A1 : Option Addr) (c1 : Nat) (l1 : List Bool) (a2 : Int) (la co : List Int) (f1 f2 : Int) (w : World)
    (hr0 : Kd.C k35 w A0 l0.length l0) (hc0 : l0.length ≤ c0) (hr1 : Kd.C Kd.bool w A1 l1.length l1) (hc1 : l1.length ≤ c1) (h : votes_count.f k l0 l1 a2 = some (la, co, f1, f2)) :
    Calls Try.prog 33 #[.slice A0 l0.length c0, .slice A1 l1.length c1, .int .i64 a2] w fun e w' => e = .returned (.tuple #[.agg (bal la co), .agg #[.int .i64 f1, .int .i64 f2]]) ∧ Below w.heap.size w w' := by
  unfold votes_count.f at h
  obtain ⟨⟨t1, t2⟩, hv, H⟩ := Option.bind_eq_some_iff.mp h
  dsimp only at H
  by_cases q1 : (t1 == 0 && (t2 == 0)) = true
  · rw [if_pos q1] at H
    have z1 : t1 = 0 := by simp at q1; exact q1.1
    have z2 : t2 = 0 := by simp at q1; exact q1.2
    subst z1
    subst z2
    by_cases q3 : a2 < 0
    · rw [if_pos q3] at H
      simp only [Option.some.injEq, Prod.mk.injEq] at H
      obtain ⟨rfl, rfl, rfl, rfl⟩ := H
      exact votes_count.low k A0 c0 l0 A1 c1 l1 a2 w hr0 hc0 hr1 hc1 hv q3
    · rw [if_neg q3] at H
      by_cases q4 : a2 ≥ (l1.length : Int)
      · rw [if_pos q4] at H
        simp only [Option.some.injEq, Prod.mk.injEq] at H
        obtain ⟨rfl, rfl, rfl, rfl⟩ := H
        exact votes_count.high k A0 c0 l0 A1 c1 l1 a2 w hr0 hc0 hr1 hc1 hv q3 q4
      · rw [if_neg q4] at H
        exact votes_count.main k A0 c0 l0 A1 c1 l1 a2 w hr0 hc0 hr1 hc1 la co f1 f2 hv q3 q4 H
  · rw [if_neg q1] at H
    simp only [Option.some.injEq, Prod.mk.injEq] at H
    obtain ⟨rfl, rfl, rfl, rfl⟩ := H
    exact votes_count.bad k A0 c0 l0 A1 c1 l1 a2 w hr0 hc0 hr1 hc1 t1 t2 hv q1
end Go.Proofs.Ytbkdaofddnkaaaa.PVo
