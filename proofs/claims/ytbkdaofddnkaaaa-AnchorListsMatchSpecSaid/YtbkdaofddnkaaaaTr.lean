import Derived.Test.YtbkdaofddnkaaaaPAmx0
import Derived.Laws.CopyOwn
namespace Go.Proofs.Ytbkdaofddnkaaaa.PAm
open Go.RowKit Go.Proofs.YtbkdaofddnkaaaaW.PrintWords Go.Proofs.YtbkdaofddnkaaaaW.PrintLast Go.Proofs.YtbkdaofddnkaaaaW.PrintMore
attribute [local go_sem] max2_int min2_int max_two min_two max_three min_three max_four min_four
attribute [local go_sem] World.cell?_alloc_some
set_option linter.unusedVariables false
set_option linter.unusedSimpArgs false


theorem below_put {B : Nat} {w W : World} (h : Below B w W) {g : Nat} (hg : B ≤ g) (j : Nat) (u : Value) : Below B w (W.setCell ⟨g, j, none⟩ u) := h.setCell (p := ⟨g, j, none⟩) hg u
def up : Nat → Int → List (Int × Bool)
  | 0, _ => []
  | c + 1, n => (n, true) :: up c (n + 1)
def trL : List S57 → Nat → Int → List (Int × Bool)
  | [], o, n => up (130 - o) n
  | h :: t, o, n => up (h.f0.toNat - o) n ++ (List.replicate h.f1.length (n + ((h.f0.toNat - o : Nat) : Int), false) ++ trL t (h.f0.toNat + h.f1.length) (n + ((h.f0.toNat - o : Nat) : Int) + (h.f2.length : Int)))
def trOk : Nat → List S57 → Bool
  | o, [] => decide (o ≤ 130)
  | o, h :: t => decide ((o : Int) ≤ h.f0 ∧ h.f0 + (h.f1.length : Int) ≤ 130 ∧ h.f2.length ≤ 1000) && trOk (h.f0.toNat + h.f1.length) t
def pc (D : List (Int × Bool)) : Array Value := (D.map (fun x => Value.int .i64 x.1) ++ List.replicate (130 - D.length) (Value.int .i64 0)).toArray
def kc (D : List (Int × Bool)) : Array Value := (D.map (fun x => Value.bool x.2) ++ List.replicate (130 - D.length) (Value.bool false)).toArray
theorem pc_size {D : List (Int × Bool)} (h : D.length ≤ 130) : (pc D).size = 130 := by simp [pc]; omega
theorem kc_size {D : List (Int × Bool)} (h : D.length ≤ 130) : (kc D).size = 130 := by simp [kc]; omega
theorem pc_get {D : List (Int × Bool)} (h : D.length < 130) : (pc D)[D.length]? = some (.int .i64 0) := by
  have e : 130 - D.length = (129 - D.length) + 1 := by omega
  simp [pc, e, List.getElem?_append_right]
theorem kc_get {D : List (Int × Bool)} (h : D.length < 130) : (kc D)[D.length]? = some (.bool false) := by
  have e : 130 - D.length = (129 - D.length) + 1 := by omega
  simp [kc, e, List.getElem?_append_right]
theorem set_app {α : Type} (a : List α) (x y : α) (b : List α) : (a ++ x :: b).set a.length y = (a ++ [y]) ++ b := by simp [List.set_append_right]
theorem pc_set {D : List (Int × Bool)} (h : D.length < 130) (n : Int) (b : Bool) : (pc D).setIfInBounds D.length (.int .i64 n) = pc (D ++ [(n, b)]) := by
  have e : 130 - D.length = (129 - D.length) + 1 := by omega
  have e2 : 130 - (D ++ [(n, b)]).length = 129 - D.length := by rw [List.length_append, List.length_singleton]; omega
  unfold pc
  rw [e2, e, List.replicate_succ, List.setIfInBounds_toArray, List.map_append]
  have := set_app (D.map (fun x => Value.int .i64 x.1)) (.int .i64 0) (.int .i64 n) (List.replicate (129 - D.length) (Value.int .i64 0))
  rw [List.length_map] at this
  rw [this]
  rfl
theorem kc_set {D : List (Int × Bool)} (h : D.length < 130) (n : Int) (b : Bool) : (kc D).setIfInBounds D.length (.bool b) = kc (D ++ [(n, b)]) := by
  have e : 130 - D.length = (129 - D.length) + 1 := by omega
  have e2 : 130 - (D ++ [(n, b)]).length = 129 - D.length := by rw [List.length_append, List.length_singleton]; omega
  unfold kc
  rw [e2, e, List.replicate_succ, List.setIfInBounds_toArray, List.map_append]
  have := set_app (D.map (fun x => Value.bool x.2)) (.bool false) (.bool b) (List.replicate (129 - D.length) (Value.bool false))
  rw [List.length_map] at this
  rw [this]
  rfl
theorem kc_false {D : List (Int × Bool)} (h : D.length < 130) (n : Int) : kc (D ++ [(n, false)]) = kc D := by
  have e : 130 - D.length = (129 - D.length) + 1 := by omega
  have e2 : 130 - (D ++ [(n, false)]).length = 129 - D.length := by rw [List.length_append, List.length_singleton]; omega
  unfold kc
  rw [e2, e, List.replicate_succ, List.map_append, List.append_assoc]
  rfl
theorem pc_one (D : List (Int × Bool)) : (pc D).all (·.oneCell') = true := by
  have h : ∀ x ∈ (D.map (fun x => Value.int .i64 x.1) ++ List.replicate (130 - D.length) (Value.int .i64 0)), x.oneCell' = true := by
    intro x hx
    rcases List.mem_append.1 hx with h | h
    · obtain ⟨y, _, rfl⟩ := List.mem_map.1 h; rfl
    · rw [(List.mem_replicate.1 h).2]; rfl
  unfold pc
  rw [List.all_toArray]
  exact List.all_eq_true.2 h
theorem kc_one (D : List (Int × Bool)) : (kc D).all (·.oneCell') = true := by
  have h : ∀ x ∈ (D.map (fun x => Value.bool x.2) ++ List.replicate (130 - D.length) (Value.bool false)), x.oneCell' = true := by
    intro x hx
    rcases List.mem_append.1 hx with h | h
    · obtain ⟨y, _, rfl⟩ := List.mem_map.1 h; rfl
    · rw [(List.mem_replicate.1 h).2]; rfl
  unfold kc
  rw [List.all_toArray]
  exact List.all_eq_true.2 h
theorem yieldsIf_load_row {P : Program} {ops : Array Oper} {S : World → Prop} {op : Oper} {a : Act} (hw : Region.wanted op (yielded ops a.tmps) = true) (ty : TypeId) (x : Operand) (ho : op.op = .load ty x)
    (g : Nat) (hx : a.eval x = .pointer (some ⟨g, 0, none⟩)) (cs : Array Value) (t : TypeId) (d : TypeDesc) (hS : ∀ w, S w → w.heap[g]? = some (.cells cs t (0, 0))) (hu : P.underlying ty = some d) (hd : (match d with | .struct _ | .array _ _ => true | _ => false) = true) (hi : (P.info? ty).map (·.size) = some cs.size) : YieldsIf P ops S op (.agg cs) a :=
  .inl ⟨hw, fun w hw' => by
    unfold execOp
    simp only [ho, hx, Instr.loadAt, Instr.sureAddr, Sem.run_bind, Sem.run_pure, Result.andThen_ok, run_loadVar_row w g t ty cs (0, 0) d (hS w hw') hu hd hi]⟩
theorem w1_ {n : Int} (h0 : 0 ≤ n) (h1 : n ≤ 1000000000) : wrap64 (n + 1) = n + 1 := by unfold wrap64; omega
theorem wa_ {n : Int} {m : Nat} (h0 : 0 ≤ n) (h1 : n ≤ 1000000000) (h2 : m ≤ 1000000) : wrap64 (n + (m : Int)) = n + (m : Int) := by unfold wrap64; omega
theorem nb_ {n : Int} {a d : Nat} (h : n ≤ 130 + 2000 * (a : Int) + (d : Int)) (ha : a ≤ 1000) (hd : d < 130) : n ≤ 1000000000 := by omega
theorem nc_ {n : Int} {d : Nat} (h : n ≤ 10000000 + (d : Int)) (hd : d < 130) : n ≤ 1000000000 := by omega
theorem nd_ {n : Int} {a d : Nat} (h : n ≤ 130 + 2000 * (a : Int) + (d : Int)) (hd : d ≤ 130) : n ≤ 260 + 2000 * (a : Int) := by omega
theorem ne_ {n : Int} {a : Nat} (h : n ≤ 260 + 2000 * (a : Int)) (ha : a ≤ 1000) : n ≤ 1000000000 := by omega
theorem nf_ {n : Int} {a b m : Nat} (h0 : 0 ≤ n) (h : n ≤ 260 + 2000 * (a : Int)) (hm : m ≤ 1000) (hb : b = a + 1) : 0 ≤ n + (m : Int) ∧ n + (m : Int) ≤ 130 + 2000 * (b : Int) := by omega
theorem wn_ {m : Nat} (h : m ≤ 1000) : wrap64 ((m : Int) + 1) = (m : Int) + 1 := by unfold wrap64; omega
theorem ng_ {n : Int} {a d : Nat} (h0 : 0 ≤ n) (h : n ≤ 130 + 2000 * (a : Int) + (d : Int)) : 0 ≤ n + 1 ∧ n + 1 ≤ 130 + 2000 * (a : Int) + ((d + 1 : Nat) : Int) := by omega
theorem nh_ {n : Int} {d : Nat} (h0 : 0 ≤ n) (h : n ≤ 10000000 + (d : Int)) : 0 ≤ n + 1 ∧ n + 1 ≤ 10000000 + ((d + 1 : Nat) : Int) := by omega
theorem at_mid52 (done : List S57) (e : S57) (es : List S57) : rd_T57 (done ++ e :: es) (done.length : Int) = e := by simp [rd_T57, List.getD_eq_getElem?_getD]
set_option maxHeartbeats 8000000 in
set_option maxRecDepth 100000 in
theorem changeforgeref7_Trace.calls (A0 : Option Addr) (c0 : Nat) (hs : List S57) (w : World) (hr0 : Kd.C k57 w A0 hs.length hs) (hc0 : hs.length ≤ c0) (hok : trOk 0 hs = true) (hlen : hs.length ≤ 1000) :
    Calls Try.prog 28 #[.agg #[.slice A0 hs.length c0]] w fun e w' => e = .returned (.tuple #[.agg (pc (trL hs 0 0)), .agg (kc (trL hs 0 0))]) ∧ Below w.heap.size w w' := by
  have hu45 := Try.underlying45
  have hu51 := Try.underlying51
  have hu52 := Try.underlying52
  have HR0 := Aside0.mk hr0
  have HC0 := Aside0.mk hc0
  have HLEN := Aside0.mk hlen
  have HOK0 := Aside0.mk hok
  clear hr0 hc0 hok hlen
  obtain ⟨T, hT⟩ : ∃ T, T = trL hs 0 0 := ⟨_, rfl⟩
  rw [← hT]
  have HT0 := Aside0.mk hT
  clear hT
  have HB := Aside0.mk (Below.refl w.heap.size w)
  go_enter Try.func28, Try.ntmps28
  go_wp2_with (first | ((with_reducible refine gate_dst (N := 1) rfl ?_); refine box_event ?hg (N := 1) ?hd (cs := #[.slice A0 hs.length c0]) (t := 45) ?hr ?_; (case hd => rfl); (case hg => rfl); (case hr => first | kernel_rfl | (go_simp; done) | (go_simp; rfl)); intro g1 hg wn1 hbox hb; have GE1 : Aside0 (w.heap.size ≤ g1) := Aside0.mk (by rw [hg]; exact HB.out.size); have n0_ := Aside0.mk (below_step HB.out hb); have BK1 := Aside0.mk hbox; clear HB; have HB := n0_; clear n0_ hbox hb hg) | ((with_reducible refine gate_dst (N := 2) rfl ?_); refine box_event ?hg (N := 2) ?hd (cs := pc []) (t := 51) ?hr ?_; (case hd => rfl); (case hg => rfl); (case hr => first | kernel_rfl | (go_simp; done) | (go_simp; rfl)); intro g2 hg wn2 hbox hb; have GE2 : Aside0 (w.heap.size ≤ g2) := Aside0.mk (by rw [hg]; exact HB.out.size); have NE2_1 : g2 ≠ g1 := (by rw [hg]; exact Nat.ne_of_gt (blk_lt BK1.out)); have n1_ := Aside0.mk (blk_below BK1.out hb); have n0_ := Aside0.mk (below_step HB.out hb); have BK2 := Aside0.mk hbox; clear BK1; have BK1 := n1_; clear n1_; clear HB; have HB := n0_; clear n0_ hbox hb hg) | ((with_reducible refine gate_dst (N := 3) rfl ?_); refine box_event ?hg (N := 3) ?hd (cs := kc []) (t := 52) ?hr ?_; (case hd => rfl); (case hg => rfl); (case hr => first | kernel_rfl | (go_simp; done) | (go_simp; rfl)); intro g3 hg wn3 hbox hb; have GE3 : Aside0 (w.heap.size ≤ g3) := Aside0.mk (by rw [hg]; exact HB.out.size); have NE3_1 : g3 ≠ g1 := (by rw [hg]; exact Nat.ne_of_gt (blk_lt BK1.out)); have NE3_2 : g3 ≠ g2 := (by rw [hg]; exact Nat.ne_of_gt (blk_lt BK2.out)); have n1_ := Aside0.mk (blk_below BK1.out hb); have n2_ := Aside0.mk (blk_below BK2.out hb); have n0_ := Aside0.mk (below_step HB.out hb); have BK3 := Aside0.mk hbox; clear BK1; have BK1 := n1_; clear n1_; clear BK2; have BK2 := n2_; clear n2_; clear HB; have HB := n0_; clear n0_ hbox hb hg) | ((with_reducible refine gate_dst (N := 4) rfl ?_); refine box_event ?hg (N := 4) ?hd (cs := pc []) (t := 51) ?hr ?_; (case hd => rfl); (case hg => rfl); (case hr => first | kernel_rfl | (go_simp; done) | (go_simp; rfl)); intro g4 hg wn4 hbox hb; have GE4 : Aside0 (w.heap.size ≤ g4) := Aside0.mk (by rw [hg]; exact HB.out.size); have NE4_1 : g4 ≠ g1 := (by rw [hg]; exact Nat.ne_of_gt (blk_lt BK1.out)); have NE4_2 : g4 ≠ g2 := (by rw [hg]; exact Nat.ne_of_gt (blk_lt BK2.out)); have NE4_3 : g4 ≠ g3 := (by rw [hg]; exact Nat.ne_of_gt (blk_lt BK3.out)); have n1_ := Aside0.mk (blk_below BK1.out hb); have n2_ := Aside0.mk (blk_below BK2.out hb); have n3_ := Aside0.mk (blk_below BK3.out hb); have n0_ := Aside0.mk (below_step HB.out hb); have BK4 := Aside0.mk hbox; clear BK1; have BK1 := n1_; clear n1_; clear BK2; have BK2 := n2_; clear n2_; clear BK3; have BK3 := n3_; clear n3_; clear HB; have HB := n0_; clear n0_ hbox hb hg) | ((with_reducible refine gate_dst (N := 5) rfl ?_); refine box_event ?hg (N := 5) ?hd (cs := kc []) (t := 52) ?hr ?_; (case hd => rfl); (case hg => rfl); (case hr => first | kernel_rfl | (go_simp; done) | (go_simp; rfl)); intro g5 hg wn5 hbox hb; have GE5 : Aside0 (w.heap.size ≤ g5) := Aside0.mk (by rw [hg]; exact HB.out.size); have NE5_1 : g5 ≠ g1 := (by rw [hg]; exact Nat.ne_of_gt (blk_lt BK1.out)); have NE5_2 : g5 ≠ g2 := (by rw [hg]; exact Nat.ne_of_gt (blk_lt BK2.out)); have NE5_3 : g5 ≠ g3 := (by rw [hg]; exact Nat.ne_of_gt (blk_lt BK3.out)); have NE5_4 : g5 ≠ g4 := (by rw [hg]; exact Nat.ne_of_gt (blk_lt BK4.out)); have n1_ := Aside0.mk (blk_below BK1.out hb); have n2_ := Aside0.mk (blk_below BK2.out hb); have n3_ := Aside0.mk (blk_below BK3.out hb); have n4_ := Aside0.mk (blk_below BK4.out hb); have n0_ := Aside0.mk (below_step HB.out hb); have BK5 := Aside0.mk hbox; clear BK1; have BK1 := n1_; clear n1_; clear BK2; have BK2 := n2_; clear n2_; clear BK3; have BK3 := n3_; clear n3_; clear BK4; have BK4 := n4_; clear n4_; clear HB; have HB := n0_; clear n0_ hbox hb hg) | fail)
  have n_ := Aside0.mk NE2_1
  clear NE2_1
  have NE2_1 := n_
  clear n_
  have n_ := Aside0.mk NE3_1
  clear NE3_1
  have NE3_1 := n_
  clear n_
  have n_ := Aside0.mk NE3_2
  clear NE3_2
  have NE3_2 := n_
  clear n_
  have n_ := Aside0.mk NE4_1
  clear NE4_1
  have NE4_1 := n_
  clear n_
  have n_ := Aside0.mk NE4_2
  clear NE4_2
  have NE4_2 := n_
  clear n_
  have n_ := Aside0.mk NE4_3
  clear NE4_3
  have NE4_3 := n_
  clear n_
  have n_ := Aside0.mk NE5_1
  clear NE5_1
  have NE5_1 := n_
  clear n_
  have n_ := Aside0.mk NE5_2
  clear NE5_2
  have NE5_2 := n_
  clear n_
  have n_ := Aside0.mk NE5_3
  clear NE5_3
  have NE5_3 := n_
  clear n_
  have n_ := Aside0.mk NE5_4
  clear NE5_4
  have NE5_4 := n_
  clear n_
  have NX1_4 := Aside0.mk (Ne.symm NE4_1.out)
  have NX2_4 := Aside0.mk (Ne.symm NE4_2.out)
  have NX3_4 := Aside0.mk (Ne.symm NE4_3.out)
  have NX5_4 := NE5_4
  have NX1_5 := Aside0.mk (Ne.symm NE5_1.out)
  have NX2_5 := Aside0.mk (Ne.symm NE5_2.out)
  have NX3_5 := Aside0.mk (Ne.symm NE5_3.out)
  have NX4_5 := Aside0.mk (Ne.symm NE5_4.out)
  go_loopg [6, 7, 8] hs.length (fun kq v6 v7 v8 w' => ∃ (D : List (Int × Bool)) (n : Int) (hd rest : List S57), v6 = .int .i64 (D.length : Int) ∧ v7 = .int .i64 n ∧ v8 = .int .i64 (hd.length : Int) ∧ Aside0 (rest.length = kq) ∧ Aside0 (hs = hd ++ rest) ∧ Aside0 (trOk D.length rest = true) ∧ Aside0 (D ++ trL rest D.length n = T) ∧ Aside0 (0 ≤ n ∧ n ≤ 130 + 2000 * (hd.length : Int)) ∧ Aside0 (w'.heap[g1]? = some (.cells #[.slice A0 hs.length c0] 45 (0, 0))) ∧ Aside0 (w'.heap[g2]? = some (.cells (pc []) 51 (0, 0))) ∧ Aside0 (w'.heap[g3]? = some (.cells (kc []) 52 (0, 0))) ∧ Aside0 (w'.heap[g4]? = some (.cells (pc D) 51 (0, 0))) ∧ Aside0 (w'.heap[g5]? = some (.cells (kc D) 52 (0, 0))) ∧ Aside0 (Below w.heap.size w w'))
  case atStart => exact ⟨[], 0, [], hs, rfl, rfl, rfl, ⟨rfl⟩, ⟨rfl⟩, HOK0, ⟨by rw [HT0.out]; rfl⟩, ⟨by decide⟩, BK1, BK2, BK3, BK4, BK5, HB⟩
  case round =>
    clear HT0 HOK0 BK1 BK2 BK3 BK4 BK5 HB
    obtain ⟨D, n, hd, rest, rfl, rfl, rfl, HK, HS, HOK, HTT, HN, BK1, BK2, BK3, BK4, BK5, HB⟩ := hrel
    have x1 := (blk_cell BK1.out 0).trans rfl
    cases rest with
    | nil =>
      have hx : decide ((hd.length : Int) < (hs.length : Int)) = false := decide_eq_false (by rw [HS.out]; simp)
      have hxn : ¬ hd.length < hs.length := by rw [HS.out]; simp
      have hoD : D.length ≤ 130 := by have h_ := HOK.out; simpa [trOk] using h_
      have hn2 : n ≤ 10000000 := by have := HN.out; have := HLEN.out; have h_ : hd.length ≤ hs.length := by { rw [HS.out]; simp }; omega
      have hn0 : 0 ≤ n := HN.out.1
      have HTU : Aside0 (D ++ up (130 - D.length) n = T) := ⟨HTT.out⟩
      clear HTT HN HOK
      go_wp2_with fail
      go_loopg [6, 7] (130 - D.length) (fun kq v6 v7 w' => ∃ (D : List (Int × Bool)) (n : Int), v6 = .int .i64 (D.length : Int) ∧ v7 = .int .i64 n ∧ Aside0 (D.length + kq = 130) ∧ Aside0 (D ++ up kq n = T) ∧ Aside0 (0 ≤ n ∧ n ≤ 10000000 + (D.length : Int)) ∧ Aside0 (w'.heap[g1]? = some (.cells #[.slice A0 hs.length c0] 45 (0, 0))) ∧ Aside0 (w'.heap[g2]? = some (.cells (pc []) 51 (0, 0))) ∧ Aside0 (w'.heap[g3]? = some (.cells (kc []) 52 (0, 0))) ∧ Aside0 (w'.heap[g4]? = some (.cells (pc D) 51 (0, 0))) ∧ Aside0 (w'.heap[g5]? = some (.cells (kc D) 52 (0, 0))) ∧ Aside0 (Below w.heap.size w w'))
      case atStart => exact ⟨D, n, rfl, rfl, ⟨by omega⟩, HTU, ⟨by omega⟩, BK1, BK2, BK3, BK4, BK5, HB⟩
      case round =>
        clear HTU BK1 BK2 BK3 BK4 BK5 HB x1 hoD hn2 hn0 HK HS
        obtain ⟨D, n, rfl, rfl, HK, HTT, HN, BK1, BK2, BK3, BK4, BK5, HB⟩ := hrel
        by_cases hD : D.length < 130
        · obtain ⟨kz, hkz⟩ : ∃ kz, gk = kz + 1 := ⟨gk - 1, by have := HK.out; omega⟩
          have hb1 := HN.out
          have hxd : decide ((D.length : Int) < 130) = true := decide_eq_true (by omega)
          have x1 := (blk_cell BK1.out 0).trans rfl
          have p4 := (blk_cell BK4.out D.length).trans (pc_get hD)
          have p5 := (blk_cell BK5.out D.length).trans (kc_get hD)
          have z4 := blk_frozen BK4.out D.length
          have z5 := blk_frozen BK5.out D.length
          have hDi : (D.length : Int) < 130 := by omega
          have hD0 : (0 : Int) ≤ (D.length : Int) := by omega
          have hDl : Aside0 (((D.length : Int) + 1) = (((D ++ [(n, true)] : List (Int × Bool)).length : Nat) : Int)) := ⟨by rw [List.length_append, List.length_singleton]; rfl⟩
          have hDf : Aside0 (((D.length : Int) + 1) = (((D ++ [(n, false)] : List (Int × Bool)).length : Nat) : Int)) := ⟨by rw [List.length_append, List.length_singleton]; rfl⟩
          have hwD : wrap64 ((D.length : Int) + 1) = (D.length : Int) + 1 := w1_ hD0 (Int.le_of_lt (Int.lt_trans hDi (by decide)))
          have hwn : wrap64 (n + 1) = n + 1 := w1_ hb1.1 (by first | exact nb_ hb1.2 hn3 hD | exact nc_ hb1.2 hD | exact Int.le_trans hb1.2 (by decide))
          have nv1 := NX5_4.out
          have nv2 := NX4_5.out
          go_wp2_with fail
          go_roundg kz
          case measure => (clear nv1 nv2; omega)
          case rel => (clear nv1 nv2; exact ⟨D ++ [(n, true)], n + 1, by first | exact congrArg _ hDl.out | (rw [hwD]; exact congrArg _ hDl.out), by first | rfl | (rw [hwn]), ⟨by have := HK.out; rw [List.length_append, List.length_singleton]; omega⟩, ⟨by have h_ := HTT.out; rw [hkz] at h_; rw [List.append_assoc]; exact h_⟩, ⟨by rw [List.length_append, List.length_singleton]; first | exact ng_ hb1.1 hb1.2 | exact nh_ hb1.1 hb1.2⟩, ⟨blk_far (blk_far BK1.out NX1_4.out _) NX1_5.out _⟩, ⟨blk_far (blk_far BK2.out NX2_4.out _) NX2_5.out _⟩, ⟨blk_far (blk_far BK3.out NX3_4.out _) NX3_5.out _⟩, ⟨blk_far (blk_put BK4.out D.length (.int .i64 n) (pc_set hD n true)) NX4_5.out _⟩, ⟨blk_put (blk_far BK5.out NX5_4.out _) D.length (.bool true) (kc_set hD n true)⟩, ⟨below_put (below_put HB.out GE4.out _ _) GE5.out _ _⟩⟩)
        · have hxd : decide ((D.length : Int) < 130) = false := decide_eq_false (by omega)
          have hxi : ¬ (D.length : Int) < 130 := by omega
          obtain rfl : gk = 0 := by have := HK.out; omega
          have e_ : D = T := by have h_ := HTT.out; simpa [up] using h_
          clear HTT HN
          subst e_
          go_wp2_with fail
          have hTl : D.length = 130 := by have := HK.out; omega
          have hi4 : (Try.prog.info? 51).map (·.size) = some (pc D).size := by rw [pc_size (by omega)]; kernel_rfl
          have hi5 : (Try.prog.info? 52).map (·.size) = some (kc D).size := by rw [kc_size (by omega)]; kernel_rfl
          refine start_ (n := 4) (S := fun W => W.heap[g4]? = some (.cells (pc D) 51 (0, 0)) ∧ W.heap[g5]? = some (.cells (kc D) 52 (0, 0))) (ds := []) #[false, false, false, false] (by kernel_rfl) rfl rfl ⟨blk_drew BK4.out, blk_drew BK5.out⟩ (fun hHeld => ?_)
          have B2 := blk_drew BK2.out
          have B3 := blk_drew BK3.out
          have HBd := below_drew1 HB.out
          generalize wr.drew = wd at hHeld B2 B3 HBd ⊢
          refine take_ (i := 0) (N := some 70) (v := .agg (pc D)) (a' := ?_) #[true, false, false, false] rfl rfl (by kernel_rfl) (fun _ _ _ h => h) (yieldsIf_load_row rfl 51 (.tmp 4) rfl g4 rfl (pc D) 51 _ (fun _ h => h.1) Try.underlying51 rfl hi4) hHeld ?_ ?_
          rotate_left
          · simp only [Act.put, List.setIfInBounds_toArray, List.set_cons_zero, List.set_cons_succ]
            rfl
          refine take_ (i := 1) (N := some 71) (v := .agg (kc D)) (a' := ?_) #[true, true, false, false] rfl rfl (by kernel_rfl) (fun _ _ _ h => h) (yieldsIf_load_row rfl 52 (.tmp 5) rfl g5 rfl (kc D) 52 _ (fun _ h => h.2) Try.underlying52 rfl hi5) hHeld ?_ ?_
          rotate_left
          · simp only [Act.put, List.setIfInBounds_toArray, List.set_cons_zero, List.set_cons_succ]
            rfl
          refine one_ (i := 2) (N := none) #[true, true, true, false] rfl rfl (by kernel_rfl) (by decide) (fun K hK => ?_)
          rw [if_pos (by rfl)]
          refine wp_store_row 51 (.tmp 2) (.tmp 70) rfl g2 (pc D) rfl rfl 51 (pc []) B2 hi4 (by rw [pc_size (show ([] : List (Int × Bool)).length ≤ 130 from by decide), pc_size (by omega)]) (pc_one D) ?_
          refine hK.out _ _ ⟨(setRow_other wd g2 g4 _ NE4_2.out).trans hHeld.1, (setRow_other wd g2 g5 _ NE5_2.out).trans hHeld.2⟩ (fun hHeld2 => ?_)
          clear hK K
          refine one_ (i := 3) (N := none) #[true, true, true, true] rfl rfl (by kernel_rfl) (by decide) (fun K hK => ?_)
          rw [if_pos (by rfl)]
          refine wp_store_row 52 (.tmp 3) (.tmp 71) rfl g3 (kc D) rfl rfl 52 (kc []) ((setRow_other wd g2 g3 _ NE3_2.out).trans B3) hi5 (by rw [kc_size (show ([] : List (Int × Bool)).length ≤ 130 from by decide), kc_size (by omega)]) (kc_one D) ?_
          refine hK.out _ _ ⟨(setRow_other _ g3 g4 _ NE4_3.out).trans hHeld2.1, (setRow_other _ g3 g5 _ NE5_3.out).trans hHeld2.2⟩ (fun hHeld3 => ?_)
          clear hK K
          refine done_ (by kernel_rfl) ?_
          try go_wp2
          refine bodyPost_ret (results_cc rfl _ _ g2 g3 51 52 (pc D) (kc D) (0, 0) (0, 0) _ _ rfl ((setRow_other _ g3 g2 _ (Ne.symm NE3_2.out)).trans (setRow_heap wd g2 (pc []) (pc D) 51 (0, 0) B2)) Try.underlying51 rfl hi4 rfl (setRow_heap _ g3 (kc []) (kc D) 52 (0, 0) ((setRow_other wd g2 g3 _ NE3_2.out).trans B3)) Try.underlying52 rfl hi5) rfl ?_
          exact ⟨rfl, below_setRow (below_setRow HBd GE2.out _) GE3.out _⟩
    | cons h t =>
      have hjl : hd.length + (t.length + 1) = hs.length := by rw [HS.out, List.length_append, List.length_cons]
      have hx : decide ((hd.length : Int) < (hs.length : Int)) = true := decide_eq_true (by omega)
      have hxn : hd.length < hs.length := by omega
      have hxp : (hd.length : Int) < (hs.length : Int) := by omega
      have hx0 : (0 : Int) ≤ (hd.length : Int) := by omega
      have hok_ := HOK.out
      simp only [trOk, Bool.and_eq_true, decide_eq_true_eq] at hok_
      obtain ⟨⟨ok1, ok2, ok3⟩, ok4⟩ := hok_
      have HOK1 := Aside0.mk ok4
      clear ok4 HOK
      obtain ⟨kz, hkz⟩ : ∃ kz, gk = kz + 1 := ⟨t.length, by have := HK.out; rw [List.length_cons] at this; omega⟩
      have HK1 : Aside0 (t.length = kz) := ⟨by have := HK.out; rw [List.length_cons] at this; omega⟩
      obtain ⟨ad, A1, c1, A2, c2, hA, y0, y1, y2, hl1, hC1, hl2, hC2⟩ := at_T57 HR0.out (hd.length : Int) hx0 hxp
      have he : rd_T57 hs (hd.length : Int) = h := by rw [HS.out]; exact at_mid52 _ _ _
      rw [he] at y0 y1 y2 hl1 hl2
      rw [Int.toNat_natCast] at y0 y1 y2
      subst hA
      clear hC1 hC2
      have hXX : ∀ W, Below w.heap.size w W → W.cell? (ad.add (hd.length * 3)) = some (.int .i64 h.f0) ∧ W.cell? ⟨(ad.add (hd.length * 3)).block, (ad.add (hd.length * 3)).off + 1, none⟩ = some (.slice A1 h.f1.length c1) ∧ W.cell? ⟨(ad.add (hd.length * 3)).block, (ad.add (hd.length * 3)).off + 2, none⟩ = some (.slice A2 h.f2.length c2) := fun W hW => ⟨(Below.cell hW (World.block_lt_of_cell? w _ y0)).trans y0, (Below.cell hW (World.block_lt_of_cell? w _ y1)).trans y1, (Below.cell hW (World.block_lt_of_cell? w _ y2)).trans y2⟩
      have HX := Aside0.mk hXX
      clear hXX y0 y1 y2 he
      obtain ⟨N1, hN1⟩ : ∃ N1 : Int, N1 = n + ((h.f0.toNat - D.length : Nat) : Int) := ⟨_, rfl⟩
      have HTU : Aside0 (D ++ (up (h.f0.toNat - D.length) n ++ (List.replicate h.f1.length (N1, false) ++ trL t (h.f0.toNat + h.f1.length) (N1 + (h.f2.length : Int)))) = T) := ⟨by rw [hN1]; exact HTT.out⟩
      have hn1 : n ≤ 130 + 2000 * (hd.length : Int) := HN.out.2
      have hn0 : 0 ≤ n := HN.out.1
      have hn3 : hd.length ≤ 1000 := by have := HLEN.out; omega
      have ht130 : Aside0 (h.f0.toNat ≤ 130) := ⟨by omega⟩
      have hf130 : Aside0 (h.f1.length ≤ 1000) := ⟨by omega⟩
      have hjl_ := Aside0.mk hjl
      clear hjl
      clear HTT HN
      have OKA := Aside0.mk (And.intro ok1 (And.intro ok2 ok3))
      have HN3 := Aside0.mk hn3
      have HKZ := Aside0.mk hkz
      have HN1 := Aside0.mk (And.intro hn0 hn1)
      have HNN := Aside0.mk hN1
      clear ok1 ok2 ok3 hn3 hkz hn0 hn1 hN1
      go_wp2_with fail
      clear hxn
      go_loopg [6, 7] (h.f0.toNat - D.length) (fun kq v6 v7 w' => ∃ (D : List (Int × Bool)) (n : Int), v6 = .int .i64 (D.length : Int) ∧ v7 = .int .i64 n ∧ Aside0 (D.length + kq = h.f0.toNat) ∧ Aside0 (N1 = n + (kq : Int)) ∧ Aside0 (D ++ (up kq n ++ (List.replicate h.f1.length (N1, false) ++ trL t (h.f0.toNat + h.f1.length) (N1 + (h.f2.length : Int)))) = T) ∧ Aside0 (0 ≤ n ∧ n ≤ 130 + 2000 * (hd.length : Int) + (D.length : Int)) ∧ Aside0 (w'.heap[g1]? = some (.cells #[.slice (some ad) hs.length c0] 45 (0, 0))) ∧ Aside0 (w'.heap[g2]? = some (.cells (pc []) 51 (0, 0))) ∧ Aside0 (w'.heap[g3]? = some (.cells (kc []) 52 (0, 0))) ∧ Aside0 (w'.heap[g4]? = some (.cells (pc D) 51 (0, 0))) ∧ Aside0 (w'.heap[g5]? = some (.cells (kc D) 52 (0, 0))) ∧ Aside0 (Below w.heap.size w w'))
      case atStart => exact ⟨D, n, rfl, rfl, ⟨by have := OKA.out; omega⟩, HNN, HTU, ⟨by have := HN1.out; omega⟩, BK1, BK2, BK3, BK4, BK5, HB⟩
      case round =>
        clear HTU BK1 BK2 BK3 BK4 BK5 HB x1 HN1 HNN
        obtain ⟨D, n, rfl, rfl, HK, HM, HTT, HN, BK1, BK2, BK3, BK4, BK5, HB⟩ := hrel
        obtain ⟨y0, y1, y2⟩ := HX.out _ HB.out
        by_cases hlt : (D.length : Int) < h.f0
        · obtain ⟨ky, hky⟩ : ∃ ky, gk = ky + 1 := ⟨gk - 1, by have := HK.out; omega⟩
          have hb1 := HN.out
          have hn3 := HN3.out
          have hD : D.length < 130 := by have := OKA.out; omega
          have hxd : decide ((D.length : Int) < h.f0) = true := decide_eq_true hlt
          have x1 := (blk_cell BK1.out 0).trans rfl
          have p4 := (blk_cell BK4.out D.length).trans (pc_get hD)
          have p5 := (blk_cell BK5.out D.length).trans (kc_get hD)
          have z4 := blk_frozen BK4.out D.length
          have z5 := blk_frozen BK5.out D.length
          have hDi : (D.length : Int) < 130 := by omega
          have hD0 : (0 : Int) ≤ (D.length : Int) := by omega
          have hDl : Aside0 (((D.length : Int) + 1) = (((D ++ [(n, true)] : List (Int × Bool)).length : Nat) : Int)) := ⟨by rw [List.length_append, List.length_singleton]; rfl⟩
          have hDf : Aside0 (((D.length : Int) + 1) = (((D ++ [(n, false)] : List (Int × Bool)).length : Nat) : Int)) := ⟨by rw [List.length_append, List.length_singleton]; rfl⟩
          have hwD : wrap64 ((D.length : Int) + 1) = (D.length : Int) + 1 := w1_ hD0 (Int.le_of_lt (Int.lt_trans hDi (by decide)))
          have hwn : wrap64 (n + 1) = n + 1 := w1_ hb1.1 (by first | exact nb_ hb1.2 hn3 hD | exact nc_ hb1.2 hD | exact Int.le_trans hb1.2 (by decide))
          have nv1 := NX5_4.out
          have nv2 := NX4_5.out
          have HB1 := Aside0.mk hb1
          have HKY := Aside0.mk hky
          clear hb1 hn3 hky hlt
          go_wp2_with fail
          have hb1 := HB1.out
          have hky := HKY.out
          go_roundg ky
          case measure => (clear nv1 nv2; omega)
          case rel => (clear nv1 nv2; exact ⟨D ++ [(n, true)], n + 1, by first | exact congrArg _ hDl.out | (rw [hwD]; exact congrArg _ hDl.out), by first | rfl | (rw [hwn]), ⟨by have := HK.out; rw [List.length_append, List.length_singleton]; omega⟩, ⟨by have := HM.out; omega⟩, ⟨by have h_ := HTT.out; rw [hky] at h_; rw [List.append_assoc]; exact h_⟩, ⟨by rw [List.length_append, List.length_singleton]; first | exact ng_ hb1.1 hb1.2 | exact nh_ hb1.1 hb1.2⟩, ⟨blk_far (blk_far BK1.out NX1_4.out _) NX1_5.out _⟩, ⟨blk_far (blk_far BK2.out NX2_4.out _) NX2_5.out _⟩, ⟨blk_far (blk_far BK3.out NX3_4.out _) NX3_5.out _⟩, ⟨blk_far (blk_put BK4.out D.length (.int .i64 n) (pc_set hD n true)) NX4_5.out _⟩, ⟨blk_put (blk_far BK5.out NX5_4.out _) D.length (.bool true) (kc_set hD n true)⟩, ⟨below_put (below_put HB.out GE4.out _ _) GE5.out _ _⟩⟩)
        · have hxd : decide ((D.length : Int) < h.f0) = false := decide_eq_false hlt
          obtain rfl : gk = 0 := by have := HK.out; have := OKA.out; omega
          have hnN : n = N1 := by have := HM.out; omega
          have hdl : Aside0 (D.length = h.f0.toNat) := ⟨by have := HK.out; omega⟩
          have HTV : Aside0 (D ++ (List.replicate h.f1.length (N1, false) ++ trL t (h.f0.toNat + h.f1.length) (N1 + (h.f2.length : Int))) = T) := ⟨HTT.out⟩
          have HNB := Aside0.mk (nd_ HN.out.2 (Nat.le_trans (Nat.le_of_eq hdl.out) ht130.out))
          have HN0 := Aside0.mk HN.out.1
          clear HTT HM HN HK
          subst hnN
          clear hlt
          have x1 := (blk_cell BK1.out 0).trans rfl
          go_wp2_with fail
          go_loopg [6, 9] h.f1.length (fun kq v6 v9 w' => ∃ (D : List (Int × Bool)) (i : Nat), v6 = .int .i64 (D.length : Int) ∧ v9 = .int .i64 (i : Int) ∧ Aside0 (i + kq = h.f1.length) ∧ Aside0 (D.length + kq = h.f0.toNat + h.f1.length) ∧ Aside0 (D ++ (List.replicate kq (n, false) ++ trL t (h.f0.toNat + h.f1.length) (n + (h.f2.length : Int))) = T) ∧ Aside0 (w'.heap[g1]? = some (.cells #[.slice (some ad) hs.length c0] 45 (0, 0))) ∧ Aside0 (w'.heap[g2]? = some (.cells (pc []) 51 (0, 0))) ∧ Aside0 (w'.heap[g3]? = some (.cells (kc []) 52 (0, 0))) ∧ Aside0 (w'.heap[g4]? = some (.cells (pc D) 51 (0, 0))) ∧ Aside0 (w'.heap[g5]? = some (.cells (kc D) 52 (0, 0))) ∧ Aside0 (Below w.heap.size w w'))
          case atStart => exact ⟨D, 0, rfl, rfl, ⟨Nat.zero_add _⟩, ⟨by rw [hdl.out]⟩, HTV, BK1, BK2, BK3, BK4, BK5, HB⟩
          case round =>
            clear HTV BK1 BK2 BK3 BK4 BK5 HB x1 y0 y1 y2 hdl hxd
            obtain ⟨D, i, rfl, rfl, HK, HD, HTT, BK1, BK2, BK3, BK4, BK5, HB⟩ := hrel
            obtain ⟨y0, y1, y2⟩ := HX.out _ HB.out
            by_cases hlt : i < h.f1.length
            · obtain ⟨ky, hky⟩ : ∃ ky, gk = ky + 1 := ⟨gk - 1, by have := HK.out; omega⟩
              have hn3 := HN3.out
              have hD : D.length < 130 := by have := HD.out; have := HK.out; have := OKA.out; omega
              have hb1 : 0 ≤ n ∧ n ≤ 1000000000 := ⟨HN0.out, ne_ HNB.out hn3⟩
              have hxd : decide ((i : Int) < (h.f1.length : Int)) = true := decide_eq_true (by omega)
              have hwi : wrap64 ((i : Int) + 1) = (i : Int) + 1 := wn_ (Nat.le_trans (Nat.le_of_lt hlt) hf130.out)
              have x1 := (blk_cell BK1.out 0).trans rfl
              have p4 := (blk_cell BK4.out D.length).trans (pc_get hD)
              have p5 := (blk_cell BK5.out D.length).trans (kc_get hD)
              have z4 := blk_frozen BK4.out D.length
              have z5 := blk_frozen BK5.out D.length
              have hDi : (D.length : Int) < 130 := by omega
              have hD0 : (0 : Int) ≤ (D.length : Int) := by omega
              have hDl : Aside0 (((D.length : Int) + 1) = (((D ++ [(n, true)] : List (Int × Bool)).length : Nat) : Int)) := ⟨by rw [List.length_append, List.length_singleton]; rfl⟩
              have hDf : Aside0 (((D.length : Int) + 1) = (((D ++ [(n, false)] : List (Int × Bool)).length : Nat) : Int)) := ⟨by rw [List.length_append, List.length_singleton]; rfl⟩
              have hwD : wrap64 ((D.length : Int) + 1) = (D.length : Int) + 1 := w1_ hD0 (Int.le_of_lt (Int.lt_trans hDi (by decide)))
              have hwn : wrap64 (n + 1) = n + 1 := w1_ hb1.1 (by first | exact nb_ hb1.2 hn3 hD | exact nc_ hb1.2 hD | exact Int.le_trans hb1.2 (by decide))
              have nv1 := NX5_4.out
              have nv2 := NX4_5.out
              have hxd2 : decide (i < h.f1.length) = true := decide_eq_true hlt
              have HKY := Aside0.mk hky
              clear hb1 hn3 hky hlt
              go_wp2_with fail
              have hky := HKY.out
              go_roundg ky
              case measure => (clear nv1 nv2; omega)
              case rel => (clear nv1 nv2; exact ⟨D ++ [(n, false)], i + 1, by first | exact congrArg _ hDf.out | (rw [hwD]; exact congrArg _ hDf.out), by first | rfl | (rw [hwi]; rfl), ⟨by have := HK.out; omega⟩, ⟨by have := HD.out; rw [List.length_append, List.length_singleton]; omega⟩, ⟨by have h_ := HTT.out; rw [hky] at h_; rw [List.append_assoc]; exact h_⟩, ⟨blk_far BK1.out NX1_4.out _⟩, ⟨blk_far BK2.out NX2_4.out _⟩, ⟨blk_far BK3.out NX3_4.out _⟩, ⟨blk_put BK4.out D.length (.int .i64 n) (pc_set hD n false)⟩, ⟨by rw [kc_false hD]; exact blk_far BK5.out NX5_4.out _⟩, ⟨below_put HB.out GE4.out _ _⟩⟩)
            · have hxd : decide ((i : Int) < (h.f1.length : Int)) = false := decide_eq_false (by omega)
              obtain rfl : gk = 0 := by have := HK.out; omega
              have hdl : Aside0 (D.length = h.f0.toNat + h.f1.length) := ⟨by have := HD.out; omega⟩
              have HTV : Aside0 (D ++ trL t (h.f0.toNat + h.f1.length) (n + (h.f2.length : Int)) = T) := ⟨HTT.out⟩
              clear HTT HD HK
              have x1 := (blk_cell BK1.out 0).trans rfl
              have hwn2 : wrap64 (n + (h.f2.length : Int)) = n + (h.f2.length : Int) := wa_ HN0.out (ne_ HNB.out HN3.out) (Nat.le_trans OKA.out.2.2 (by decide))
              have hwj : wrap64 ((hd.length : Int) + 1) = (hd.length : Int) + 1 := wn_ HN3.out
              have hjj : Aside0 (((hd.length : Int) + 1) = (((hd ++ [h] : List S57).length : Nat) : Int)) := ⟨by rw [List.length_append, List.length_singleton]; rfl⟩
              have hxd2 : decide (i < h.f1.length) = false := decide_eq_false hlt
              clear hlt
              go_wp2_with fail
              have hkz := HKZ.out
              go_roundg kz
              case measure => omega
              case rel => exact ⟨D, n + (h.f2.length : Int), hd ++ [h], t, rfl, by first | rfl | (rw [hwn2]), by first | exact congrArg _ hjj.out | (rw [hwj]; exact congrArg _ hjj.out), HK1, ⟨by rw [HS.out, List.append_assoc]; rfl⟩, ⟨by rw [hdl.out]; exact HOK1.out⟩, ⟨by rw [hdl.out]; exact HTV.out⟩, ⟨nf_ HN0.out HNB.out OKA.out.2.2 (by rw [List.length_append, List.length_singleton])⟩, BK1, BK2, BK3, BK4, BK5, HB⟩
end Go.Proofs.Ytbkdaofddnkaaaa.PAm
